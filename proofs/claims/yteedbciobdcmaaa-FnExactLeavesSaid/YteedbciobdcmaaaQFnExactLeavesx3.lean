/- Lean functions that tell what the Go functions used by one law answer, and for each a proof that the Go code comes to just these answers; no condition. Printed by this session's own program over the kit's printer. -/
import Derived.Test.YteedbciobdcmaaaWSq
import Derived.Test.YteedbciobdcmaaaQFnExactLeavesx0
import Derived.Test.YteedbciobdcmaaaQFnExactLeavesx1
namespace Go.Proofs.Yteedbciobdcmaaa.QFnExactLeaves
open Go.RowKit Go.Proofs.YteedbciobdcmaaaW.PrintWords Go.Proofs.YteedbciobdcmaaaW.PrintLast Go.Proofs.YteedbciobdcmaaaW.PrintMore
attribute [local go_sem] max2_int min2_int max_two min_two max_three min_three max_four min_four   -- for this text's walks alone
attribute [local go_sem high] go_eql go_neq go_lss go_leq go_gtr go_geq go_store   -- for this text's walks alone
set_option linter.unusedVariables false
set_option linter.unusedSimpArgs false

/-! ### spec_l1Rise: function 61 -/
def spec_l1Rise.l0 : Nat → List Int → Int → Option (Bool)
 | 0, _, _ => none
 | k + 1, x0, x3 => if x3 < (x0.length : Int) then (if 0 ≤ (wrap64 (x3 - 1)) then (if (wrap64 (x3 - 1)) < (x0.length : Int) then (if 0 ≤ x3 then (if (rd x0 (wrap64 (x3 - 1))) ≥ (rd x0 x3) then (some false) else (spec_l1Rise.l0 k x0 (wrap64 (x3 + 1)))) else (none)) else (none)) else (none)) else (some true)
def spec_l1Rise.f (k : Nat) (l0 : List Int) : Option (Bool) := spec_l1Rise.l0 k l0 1
theorem spec_l1Rise.mono_l : ∀ k, (∀ y0 y1, LeO (spec_l1Rise.l0 k y0 y1) (spec_l1Rise.l0 (k + 1) y0 y1))
 | 0 => fun _ _ r h => by simp [spec_l1Rise.l0] at h
 | k + 1 => by
  have ih0 := spec_l1Rise.mono_l k
  ·intro y0 y1
   unfold spec_l1Rise.l0
   repeat' first
   | (with_reducible exact ih0 _ _)
   | (with_reducible exact LeO.refl _)
   | (with_reducible exact LeO.none _)
   | (with_reducible refine LeO.ite ?_ ?_)
   | (with_reducible refine LeO.bind ?_ (fun _ => ?_))
   | exact ih0 _ _
   | exact LeO.none _
   | refine LeO.ite ?_ ?_
   | refine LeO.bind ?_ (fun _ => ?_)
theorem spec_l1Rise.mono : ∀ a0 k, LeO (spec_l1Rise.f k a0) (spec_l1Rise.f (k + 1) a0) := by
 intro a0 k
 have ih0 := spec_l1Rise.mono_l k
 unfold spec_l1Rise.f
 repeat' first
   | (with_reducible exact ih0 _ _)
   | (with_reducible exact LeO.refl _)
   | (with_reducible exact LeO.none _)
   | (with_reducible refine LeO.ite ?_ ?_)
   | (with_reducible refine LeO.bind ?_ (fun _ => ?_))
   | exact ih0 _ _
   | exact LeO.none _
   | refine LeO.ite ?_ ?_
   | refine LeO.bind ?_ (fun _ => ?_)
set_option maxHeartbeats 8000000 in
set_option maxRecDepth 100000 in
theorem spec_l1Rise.calls (k : Nat) (A0 : Option Addr) (c0 : Nat) (l0 : List Int) (r : Bool) (w : World) (hr0 : Kd.C (Kd.int .i64) w A0 l0.length l0) (hc0 : l0.length ≤ c0) (h : spec_l1Rise.f k l0 = some r) :
  Calls Try.prog 61 #[.slice A0 l0.length c0] w fun e w' => e = .returned (.bool r) ∧ Drawn0 w w' := by
 have HR0 := mk_ hr0; have HC0 := mk_ hc0; clear hr0 hc0
 have H : (spec_l1Rise.l0 k l0 1) = some r := h
 clear h
 have H' := mk_ H
 clear H
 go_enter Try.func61, Try.ntmps61
 go_wp2
 repeat (go_quiet (fail); try go_wp2)
 go_loopg [3] k (fun kq v3 w' => ∃ (x3_1 : Int), v3 = .int .i64 x3_1 ∧ Aside0 (spec_l1Rise.l0 kq l0 x3_1 = some r) ∧ Aside0 (kq ≤ k) ∧ Drawn0 w w')
 case atStart => exact ⟨(1), rf_, H', ⟨Nat.le_refl _⟩, by repeat (first | exact Drawn0.refl _ | apply Drawn0.step)⟩
 case round =>
  clear H'
  obtain ⟨x3_1, rfl, HA, HK1, ⟨m1, rfl⟩⟩ := hrel
  cases gk with
  | zero => exact absurd HA.out (by simp [spec_l1Rise.l0])
  | succ k1 =>
   have H := HA.out; clear HA
   simp only [spec_l1Rise.l0] at H
   by_cases c2 : x3_1 < (l0.length : Int)
   ·rw [if_pos c2] at H; have c2b0 : decide (x3_1 < (l0.length : Int)) = true := decide_eq_true c2; clear c2
    obtain ⟨ji3, hji3⟩ : ∃ j_ : Int, (wrap64 (x3_1 - 1)) = j_ := ⟨_, rfl⟩
    replace H : (if 0 ≤ (ji3) then (if (ji3) < (l0.length : Int) then (if 0 ≤ x3_1 then (if (rd l0 (ji3)) ≥ (rd l0 x3_1) then (some false) else (spec_l1Rise.l0 k1 l0 (wrap64 (x3_1 + 1)))) else (none)) else (none)) else (none)) = some r := by first | (rw [hji3] at H; exact H) | (simp only [hji3] at H ⊢; exact H)
    have hji3w : (IntKind.i64.wrap (x3_1 - 1)) = ji3 := (i64_w _).trans hji3
    by_cases c4 : 0 ≤ (ji3)
    ·rw [if_pos c4] at H; have c4b0 : decide (0 ≤ (ji3)) = true := decide_eq_true c4; clear c4; by_cases c5 : (ji3) < (l0.length : Int)
     ·rw [if_pos c5] at H; have c5b0 : decide ((ji3) < (l0.length : Int)) = true := decide_eq_true c5; clear c5; by_cases c6 : 0 ≤ x3_1
      ·rw [if_pos c6] at H; have c6b0 : decide (0 ≤ x3_1) = true := decide_eq_true c6; clear c6; by_cases c7 : (rd l0 (ji3)) ≥ (rd l0 x3_1)
       ·rw [if_pos c7] at H; have c7b0 : decide ((rd l0 x3_1) ≤ (rd l0 (ji3))) = true := decide_eq_true c7; clear c7; obtain rfl := Option.some.inj H
        have p126 : 0 ≤ ((ji3) : Int) := od_
        have q126 : (ji3) < (l0.length : Int) := od_
        obtain ⟨ad126, e126, hx126_0⟩ := Kd.at_int HR0.out (ji3) p126 q126; cases e126; replace p126 := eq_true p126; replace q126 := eq_true q126
        have p127 : 0 ≤ (x3_1 : Int) := od_
        have q127 : x3_1 < (l0.length : Int) := od_
        obtain ⟨ad127, e127, hx127_0⟩ := Kd.at_int HR0.out x3_1 p127 q127; obtain rfl : ad126 = ad127 := (by injection e127); replace p127 := eq_true p127; replace q127 := eq_true q127; go_wp2
        repeat (go_quiet (fail); try go_wp2)
        go_ret
        exact ⟨by first | rfl | (simp; done) | (simp only [← hji3] <;> (first | rfl | simp)) | (simp [*]; done), by repeat (first | exact Drawn0.refl _ | apply Drawn0.step)⟩
       ·rw [if_neg c7] at H; have c7b0 : decide ((rd l0 x3_1) ≤ (rd l0 (ji3))) = false := decide_eq_false c7; clear c7
        have H' := mk_ H
        clear H
        have p126 : 0 ≤ ((ji3) : Int) := od_
        have q126 : (ji3) < (l0.length : Int) := od_
        obtain ⟨ad126, e126, hx126_0⟩ := Kd.at_int HR0.out (ji3) p126 q126; cases e126; replace p126 := eq_true p126; replace q126 := eq_true q126
        have p127 : 0 ≤ (x3_1 : Int) := od_
        have q127 : x3_1 < (l0.length : Int) := od_
        obtain ⟨ad127, e127, hx127_0⟩ := Kd.at_int HR0.out x3_1 p127 q127; obtain rfl : ad126 = ad127 := (by injection e127); replace p127 := eq_true p127; replace q127 := eq_true q127; go_wp2
        repeat (go_quiet (fail); try go_wp2)
        go_roundg k1
        case measure => have := HK1.out; omega
        case rel => exact ⟨(wrap64 (x3_1 + 1)), rf_, H', ⟨by have := HK1.out; omega⟩, by repeat (first | exact Drawn0.refl _ | apply Drawn0.step)⟩
      ·rw [if_neg c6] at H
       exact absurd H (by simp)
     ·rw [if_neg c5] at H
      exact absurd H (by simp)
    ·rw [if_neg c4] at H
     exact absurd H (by simp)
   ·rw [if_neg c2] at H; have c2b0 : decide (x3_1 < (l0.length : Int)) = false := decide_eq_false c2; clear c2; obtain rfl := Option.some.inj H; go_wp2
    repeat (go_quiet (fail); try go_wp2)
    go_ret
    exact ⟨by first | rfl | (simp; done) | (simp [*]; done), by repeat (first | exact Drawn0.refl _ | apply Drawn0.step)⟩

/-! ### spec_l1All: function 62 -/
def spec_l1All.l0 : Nat → List Int → Int → Int → Int → Option (Bool)
 | 0, _, _, _, _ => none
 | k + 1, x0, x1, x2, x7 => if x7 < (x0.length : Int) then (if 0 ≤ x7 then ((spec_l1In.f (rd x0 x7) x1 x2).bind fun t129 => (if t129 = true then (spec_l1All.l0 k x0 x1 x2 (wrap64 (x7 + 1))) else (some false))) else (none)) else (some true)
def spec_l1All.f (k : Nat) (l0 : List Int) (a1 : Int) (a2 : Int) : Option (Bool) := spec_l1All.l0 k l0 a1 a2 0
theorem spec_l1All.mono_l : ∀ k, (∀ y0 y1 y2 y3, LeO (spec_l1All.l0 k y0 y1 y2 y3) (spec_l1All.l0 (k + 1) y0 y1 y2 y3))
 | 0 => fun _ _ _ _ r h => by simp [spec_l1All.l0] at h
 | k + 1 => by
  have ih0 := spec_l1All.mono_l k
  ·intro y0 y1 y2 y3
   unfold spec_l1All.l0
   repeat' first
   | (with_reducible exact ih0 _ _ _ _)
   | (with_reducible exact LeO.refl _)
   | (with_reducible exact LeO.none _)
   | (with_reducible refine LeO.ite ?_ ?_)
   | (with_reducible refine LeO.bind ?_ (fun _ => ?_))
   | exact ih0 _ _ _ _
   | exact LeO.none _
   | refine LeO.ite ?_ ?_
   | refine LeO.bind ?_ (fun _ => ?_)
theorem spec_l1All.mono : ∀ a0 a1 a2 k, LeO (spec_l1All.f k a0 a1 a2) (spec_l1All.f (k + 1) a0 a1 a2) := by
 intro a0 a1 a2 k
 have ih0 := spec_l1All.mono_l k
 unfold spec_l1All.f
 repeat' first
   | (with_reducible exact ih0 _ _ _ _)
   | (with_reducible exact LeO.refl _)
   | (with_reducible exact LeO.none _)
   | (with_reducible refine LeO.ite ?_ ?_)
   | (with_reducible refine LeO.bind ?_ (fun _ => ?_))
   | exact ih0 _ _ _ _
   | exact LeO.none _
   | refine LeO.ite ?_ ?_
   | refine LeO.bind ?_ (fun _ => ?_)
set_option maxHeartbeats 8000000 in
set_option maxRecDepth 100000 in
theorem spec_l1All.calls (k : Nat) (A0 : Option Addr) (c0 : Nat) (l0 : List Int) (a1 : Int) (a2 : Int) (r : Bool) (w : World) (hr0 : Kd.C (Kd.int .i64) w A0 l0.length l0) (hc0 : l0.length ≤ c0) (h : spec_l1All.f k l0 a1 a2 = some r) :
  Calls Try.prog 62 #[.slice A0 l0.length c0, .int .i64 a1, .int .i64 a2] w fun e w' => e = .returned (.bool r) ∧ Drawn0 w w' := by
 have HR0 := mk_ hr0; have HC0 := mk_ hc0; clear hr0 hc0
 have H : (spec_l1All.l0 k l0 a1 a2 0) = some r := h
 clear h
 have H' := mk_ H
 clear H
 go_enter Try.func62, Try.ntmps62
 go_wp2
 go_loopg [7] k (fun kq v7 w' => ∃ (x7_1 : Int), v7 = .int .i64 x7_1 ∧ Aside0 (spec_l1All.l0 kq l0 a1 a2 x7_1 = some r) ∧ Aside0 (kq ≤ k) ∧ Drawn0 w w')
 case atStart => exact ⟨(0), rf_, H', ⟨Nat.le_refl _⟩, by repeat (first | exact Drawn0.refl _ | apply Drawn0.step)⟩
 case round =>
  clear H'
  obtain ⟨x7_1, rfl, HA, HK1, ⟨m1, rfl⟩⟩ := hrel
  cases gk with
  | zero => exact absurd HA.out (by simp [spec_l1All.l0])
  | succ k1 =>
   have H := HA.out; clear HA
   simp only [spec_l1All.l0] at H
   by_cases c4 : x7_1 < (l0.length : Int)
   ·rw [if_pos c4] at H; have c4b0 : decide (x7_1 < (l0.length : Int)) = true := decide_eq_true c4; clear c4; by_cases c5 : 0 ≤ x7_1
    ·rw [if_pos c5] at H; have c5b0 : decide (0 ≤ x7_1) = true := decide_eq_true c5; clear c5; replace H := Option.bind_eq_some_iff.mp H; obtain ⟨t129, A60, H⟩ := H; (try dsimp only at H); have A6 := mk_ A60; clear A60; by_cases c7 : t129 = true
     ·subst c7; rw [if_pos rfl] at H
      have H' := mk_ H
      clear H
      have p128 : 0 ≤ (x7_1 : Int) := od_
      have q128 : x7_1 < (l0.length : Int) := od_
      obtain ⟨ad128, e128, hx128_0⟩ := Kd.at_int HR0.out x7_1 p128 q128; cases e128; replace p128 := eq_true p128; replace q128 := eq_true q128
      go_wp2_with (first | ((with_reducible refine gc_ 46 rfl ?_); refine gl_ (some 20) rfl Try.func46 #[.int .i64 (rd l0 x7_1), .int .i64 a1, .int .i64 a2] ?_; (with_reducible refine (spec_l1In.calls (rd l0 x7_1) a1 a2 true _ A6.out).mono ?_); rintro e w' ⟨rfl, ⟨nd, rfl⟩⟩; refine ⟨_, rfl, ?_⟩))
      go_roundg k1
      case measure => have := HK1.out; omega
      case rel => exact ⟨(wrap64 (x7_1 + 1)), rf_, H', ⟨by have := HK1.out; omega⟩, by repeat (first | exact Drawn0.refl _ | apply Drawn0.step)⟩
     ·replace c7 := Bool.eq_false_iff.mpr c7; subst c7; rw [if_neg (show ¬ (false = true) by decide)] at H; obtain rfl := Option.some.inj H
      have p128 : 0 ≤ (x7_1 : Int) := od_
      have q128 : x7_1 < (l0.length : Int) := od_
      obtain ⟨ad128, e128, hx128_0⟩ := Kd.at_int HR0.out x7_1 p128 q128; cases e128; replace p128 := eq_true p128; replace q128 := eq_true q128
      go_wp2_with (first | ((with_reducible refine gc_ 46 rfl ?_); refine gl_ (some 20) rfl Try.func46 #[.int .i64 (rd l0 x7_1), .int .i64 a1, .int .i64 a2] ?_; (with_reducible refine (spec_l1In.calls (rd l0 x7_1) a1 a2 false _ A6.out).mono ?_); rintro e w' ⟨rfl, ⟨nd, rfl⟩⟩; refine ⟨_, rfl, ?_⟩))
      go_ret
      exact ⟨by first | rfl | (simp; done) | (simp [*]; done), by repeat (first | exact Drawn0.refl _ | apply Drawn0.step)⟩
    ·rw [if_neg c5] at H
     exact absurd H (by simp)
   ·rw [if_neg c4] at H; have c4b0 : decide (x7_1 < (l0.length : Int)) = false := decide_eq_false c4; clear c4; obtain rfl := Option.some.inj H; go_wp2; go_ret
    exact ⟨by first | rfl | (simp; done) | (simp [*]; done), by repeat (first | exact Drawn0.refl _ | apply Drawn0.step)⟩

/-! ### spec_EnvelopeOk: function 53 -/
mutual
def spec_EnvelopeOk.j0 : Nat → Int → Bool → List Int → List Int → List Int → Option (Bool)
 | 0, _, _, _, _, _ => none
 | k + 1, x3, x48, x131000, x131001, x131002 => if x48 = true then (some false) else (spec_EnvelopeOk.l0 k x3 0 x131000 x131001 x131002)
def spec_EnvelopeOk.l0 : Nat → Int → Int → List Int → List Int → List Int → Option (Bool)
 | 0, _, _, _, _, _ => none
 | k + 1, x3, x4, x131000, x131001, x131002 => if x4 < x3 then (if 0 ≤ x4 then (if x4 < (x131001.length : Int) then (if x4 < (x131002.length : Int) then (if (rd x131001 x4) > (rd x131002 x4) then (some false) else (spec_EnvelopeOk.l0 k x3 (wrap64 (x4 + 1)) x131000 x131001 x131002)) else (none)) else (none)) else (none)) else (some true)
end
def spec_EnvelopeOk.f (k : Nat) (l0_0 : List Int) (l0_1 : List Int) (l0_2 : List Int) : Option (Bool) := (spec_l1In.f (l0_0.length : Int) 2 10).bind fun t131 => (if t131 = true then (if (l0_1.length : Int) = (l0_0.length : Int) then (if (l0_2.length : Int) = (l0_0.length : Int) then ((spec_l1Rise.f k l0_0).bind fun t132 => (if t132 = true then ((spec_l1All.f k l0_0 0 400000).bind fun t133 => (if t133 = true then ((spec_l1All.f k l0_1 (-1000) 1000).bind fun t134 => (if t134 = true then ((spec_l1All.f k l0_2 (-1000) 1000).bind fun t135 => (spec_EnvelopeOk.j0 k (l0_0.length : Int) (!t135) l0_0 l0_1 l0_2)) else (spec_EnvelopeOk.j0 k (l0_0.length : Int) true l0_0 l0_1 l0_2))) else (spec_EnvelopeOk.j0 k (l0_0.length : Int) true l0_0 l0_1 l0_2))) else (spec_EnvelopeOk.j0 k (l0_0.length : Int) true l0_0 l0_1 l0_2))) else (spec_EnvelopeOk.j0 k (l0_0.length : Int) true l0_0 l0_1 l0_2)) else (spec_EnvelopeOk.j0 k (l0_0.length : Int) true l0_0 l0_1 l0_2)) else (spec_EnvelopeOk.j0 k (l0_0.length : Int) true l0_0 l0_1 l0_2))
theorem spec_EnvelopeOk.mono_l : ∀ k, (∀ y0 y1 y2 y3 y4, LeO (spec_EnvelopeOk.j0 k y0 y1 y2 y3 y4) (spec_EnvelopeOk.j0 (k + 1) y0 y1 y2 y3 y4)) ∧ (∀ y0 y1 y2 y3 y4, LeO (spec_EnvelopeOk.l0 k y0 y1 y2 y3 y4) (spec_EnvelopeOk.l0 (k + 1) y0 y1 y2 y3 y4))
 | 0 => ⟨fun _ _ _ _ _ r h => by simp [spec_EnvelopeOk.j0] at h, fun _ _ _ _ _ r h => by simp [spec_EnvelopeOk.l0] at h⟩
 | k + 1 => by
  obtain ⟨ih0, ih1⟩ := spec_EnvelopeOk.mono_l k
  refine ⟨?_, ?_⟩
  ·intro y0 y1 y2 y3 y4
   unfold spec_EnvelopeOk.j0
   repeat' first
   | (with_reducible exact ih0 _ _ _ _ _)
   | (with_reducible exact ih1 _ _ _ _ _)
   | (with_reducible exact spec_l1All.mono _ _ _ _)
   | (with_reducible exact spec_l1Rise.mono _ _)
   | (with_reducible exact LeO.refl _)
   | (with_reducible exact LeO.none _)
   | (with_reducible refine LeO.ite ?_ ?_)
   | (with_reducible refine LeO.bind ?_ (fun _ => ?_))
   | exact ih0 _ _ _ _ _
   | exact ih1 _ _ _ _ _
   | exact spec_l1All.mono _ _ _ _
   | exact spec_l1Rise.mono _ _
   | exact LeO.none _
   | refine LeO.ite ?_ ?_
   | refine LeO.bind ?_ (fun _ => ?_)
  ·intro y0 y1 y2 y3 y4
   unfold spec_EnvelopeOk.l0
   repeat' first
   | (with_reducible exact ih0 _ _ _ _ _)
   | (with_reducible exact ih1 _ _ _ _ _)
   | (with_reducible exact spec_l1All.mono _ _ _ _)
   | (with_reducible exact spec_l1Rise.mono _ _)
   | (with_reducible exact LeO.refl _)
   | (with_reducible exact LeO.none _)
   | (with_reducible refine LeO.ite ?_ ?_)
   | (with_reducible refine LeO.bind ?_ (fun _ => ?_))
   | exact ih0 _ _ _ _ _
   | exact ih1 _ _ _ _ _
   | exact spec_l1All.mono _ _ _ _
   | exact spec_l1Rise.mono _ _
   | exact LeO.none _
   | refine LeO.ite ?_ ?_
   | refine LeO.bind ?_ (fun _ => ?_)
theorem spec_EnvelopeOk.mono : ∀ a0 a1 a2 k, LeO (spec_EnvelopeOk.f k a0 a1 a2) (spec_EnvelopeOk.f (k + 1) a0 a1 a2) := by
 intro a0 a1 a2 k
 obtain ⟨ih0, ih1⟩ := spec_EnvelopeOk.mono_l k
 unfold spec_EnvelopeOk.f
 repeat' first
   | (with_reducible exact ih0 _ _ _ _ _)
   | (with_reducible exact ih1 _ _ _ _ _)
   | (with_reducible exact spec_l1All.mono _ _ _ _)
   | (with_reducible exact spec_l1Rise.mono _ _)
   | (with_reducible exact LeO.refl _)
   | (with_reducible exact LeO.none _)
   | (with_reducible refine LeO.ite ?_ ?_)
   | (with_reducible refine LeO.bind ?_ (fun _ => ?_))
   | exact ih0 _ _ _ _ _
   | exact ih1 _ _ _ _ _
   | exact spec_l1All.mono _ _ _ _
   | exact spec_l1Rise.mono _ _
   | exact LeO.none _
   | refine LeO.ite ?_ ?_
   | refine LeO.bind ?_ (fun _ => ?_)
set_option maxHeartbeats 8000000 in
set_option maxRecDepth 100000 in
theorem spec_EnvelopeOk.calls (k : Nat) (A0_0 : Option Addr) (c0_0 : Nat) (l0_0 : List Int) (A0_1 : Option Addr) (c0_1 : Nat) (l0_1 : List Int) (A0_2 : Option Addr) (c0_2 : Nat) (l0_2 : List Int) (r : Bool) (w : World) (hr0_0 : Kd.C (Kd.int .i64) w A0_0 l0_0.length l0_0) (hc0_0 : l0_0.length ≤ c0_0) (hr0_1 : Kd.C (Kd.int .i64) w A0_1 l0_1.length l0_1) (hc0_1 : l0_1.length ≤ c0_1) (hr0_2 : Kd.C (Kd.int .i64) w A0_2 l0_2.length l0_2) (hc0_2 : l0_2.length ≤ c0_2) (h : spec_EnvelopeOk.f k l0_0 l0_1 l0_2 = some r) :
  Calls Try.prog 53 #[.agg #[.slice A0_0 l0_0.length c0_0, .slice A0_1 l0_1.length c0_1, .slice A0_2 l0_2.length c0_2]] w fun e w' => e = .returned (.bool r) ∧ Below w.heap.size w w' := by
 have hu33 := Try.underlying33
 have HR0_0 := mk_ hr0_0; have HC0_0 := mk_ hc0_0; clear hr0_0 hc0_0; have HR0_1 := mk_ hr0_1; have HC0_1 := mk_ hc0_1; clear hr0_1 hc0_1; have HR0_2 := mk_ hr0_2; have HC0_2 := mk_ hc0_2; clear hr0_2 hc0_2; have HB := mk_ (Below.refl w.heap.size w)
 have H : ((spec_l1In.f (l0_0.length : Int) 2 10).bind fun t131 => (if t131 = true then (if (l0_1.length : Int) = (l0_0.length : Int) then (if (l0_2.length : Int) = (l0_0.length : Int) then ((spec_l1Rise.f k l0_0).bind fun t132 => (if t132 = true then ((spec_l1All.f k l0_0 0 400000).bind fun t133 => (if t133 = true then ((spec_l1All.f k l0_1 (-1000) 1000).bind fun t134 => (if t134 = true then ((spec_l1All.f k l0_2 (-1000) 1000).bind fun t135 => (spec_EnvelopeOk.j0 k (l0_0.length : Int) (!t135) l0_0 l0_1 l0_2)) else (spec_EnvelopeOk.j0 k (l0_0.length : Int) true l0_0 l0_1 l0_2))) else (spec_EnvelopeOk.j0 k (l0_0.length : Int) true l0_0 l0_1 l0_2))) else (spec_EnvelopeOk.j0 k (l0_0.length : Int) true l0_0 l0_1 l0_2))) else (spec_EnvelopeOk.j0 k (l0_0.length : Int) true l0_0 l0_1 l0_2)) else (spec_EnvelopeOk.j0 k (l0_0.length : Int) true l0_0 l0_1 l0_2)) else (spec_EnvelopeOk.j0 k (l0_0.length : Int) true l0_0 l0_1 l0_2))) = some r := h
 clear h; have HC2 := mk_ H; clear H
 go_enter Try.func53, Try.ntmps53
 go_upto_region 2 with (first | ((with_reducible refine gd_ 1 rfl ?_); (try (refine gate_guard (by rfl) ?_; dsimp only)); refine box_event ?hg (N := 1) ?hd (cs := #[.slice A0_0 l0_0.length c0_0, .slice A0_1 l0_1.length c0_1, .slice A0_2 l0_2.length c0_2]) (t := 33) ?hr ?_; (case hd => rfl); (case hg => rfl); (case hr => exact hr_); intro gb130 hg w3 hbox hb; have BK130 := mk_ (hbox); have GW130 := mk_ ((by rw [hg]; exact (below_size (hw_ HB)) : w.heap.size ≤ gb130)); replace HB := hk_ HB hb; have GE130 := GW130; clear hb hbox hg; have hcz4_0 := bc0_ BK130; have hcz4_1 := bc1_ BK130; have hcz4_2 := bc2_ BK130; have hfz4_0 := bf_ BK130 0; have hfz4_1 := bf_ BK130 1; have hfz4_2 := bf_ BK130 2))
 repeat (go_quiet (first | ((with_reducible refine gd_ 1 rfl ?_); (try (refine gate_guard (by rfl) ?_; dsimp only)); refine box_event ?hg (N := 1) ?hd (cs := #[.slice A0_0 l0_0.length c0_0, .slice A0_1 l0_1.length c0_1, .slice A0_2 l0_2.length c0_2]) (t := 33) ?hr ?_; (case hd => rfl); (case hg => rfl); (case hr => exact hr_); intro gb130 hg w3 hbox hb; have BK130 := mk_ (hbox); have GW130 := mk_ ((by rw [hg]; exact (below_size (hw_ HB)) : w.heap.size ≤ gb130)); replace HB := hk_ HB hb; have GE130 := GW130; clear hb hbox hg; have hcz4_0 := bc0_ BK130; have hcz4_1 := bc1_ BK130; have hcz4_2 := bc2_ BK130; have hfz4_0 := bf_ BK130 0; have hfz4_1 := bf_ BK130 1; have hfz4_2 := bf_ BK130 2)); go_upto_region 2 with (first | ((with_reducible refine gd_ 1 rfl ?_); (try (refine gate_guard (by rfl) ?_; dsimp only)); refine box_event ?hg (N := 1) ?hd (cs := #[.slice A0_0 l0_0.length c0_0, .slice A0_1 l0_1.length c0_1, .slice A0_2 l0_2.length c0_2]) (t := 33) ?hr ?_; (case hd => rfl); (case hg => rfl); (case hr => exact hr_); intro gb130 hg w3 hbox hb; have BK130 := mk_ (hbox); have GW130 := mk_ ((by rw [hg]; exact (below_size (hw_ HB)) : w.heap.size ≤ gb130)); replace HB := hk_ HB hb; have GE130 := GW130; clear hb hbox hg; have hcz4_0 := bc0_ BK130; have hcz4_1 := bc1_ BK130; have hcz4_2 := bc2_ BK130; have hfz4_0 := bf_ BK130 0; have hfz4_1 := bf_ BK130 1; have hfz4_2 := bf_ BK130 2)))
 (try simp only [Act.put, List.setIfInBounds_toArray, List.set_cons_zero, List.set_cons_succ])
 go_cut [48] (fun v48 wc => ∃ (kq : Nat) (x48_1 : Bool), v48 = .bool x48_1 ∧ Aside0 (spec_EnvelopeOk.j0 kq (l0_0.length : Int) x48_1 l0_0 l0_1 l0_2 = some r) ∧ Aside0 (kq ≤ k) ∧ Aside0 (wc.heap[gb130]? = some (.cells #[(.slice A0_0 l0_0.length c0_0), (.slice A0_1 l0_1.length c0_1), (.slice A0_2 l0_2.length c0_2)] 33 (0, 0))) ∧ Aside0 (Below w.heap.size w wc))
 case first =>
  have H := HC2.out; clear HC2; replace H := Option.bind_eq_some_iff.mp H; obtain ⟨t131, A50, H⟩ := H; (try dsimp only at H); have A5 := mk_ A50; clear A50; by_cases c6 : t131 = true
  ·subst c6; rw [if_pos rfl] at H
   by_cases c7 : (l0_1.length : Int) = (l0_0.length : Int)
   ·rw [if_pos c7] at H; have c7b0 : ((l0_1.length : Int) == (l0_0.length : Int)) = true := beq_iff_eq.mpr c7; have c7b1 : ((l0_1.length : Int) != (l0_0.length : Int)) = false := bne_eq_false_iff_eq.mpr c7
    have c7b2 : (l0_1.length == l0_0.length) = true := by first | simpa using c7 | (simp at c7 ⊢; omega)
    clear c7
    (first | rw [c7b0] | (simp only [i64_w, i32_w]; rw [c7b0]) | skip)
    by_cases c8 : (l0_2.length : Int) = (l0_0.length : Int)
    ·rw [if_pos c8] at H; have c8b0 : ((l0_2.length : Int) == (l0_0.length : Int)) = true := beq_iff_eq.mpr c8; have c8b1 : ((l0_2.length : Int) != (l0_0.length : Int)) = false := bne_eq_false_iff_eq.mpr c8
     have c8b2 : (l0_2.length == l0_0.length) = true := by first | simpa using c8 | (simp at c8 ⊢; omega)
     clear c8; replace H := Option.bind_eq_some_iff.mp H; obtain ⟨t132, A90, H⟩ := H; (try dsimp only at H); have A9 := mk_ A90; clear A90; by_cases c10 : t132 = true
     ·subst c10; rw [if_pos rfl] at H
      replace H := Option.bind_eq_some_iff.mp H; obtain ⟨t133, A110, H⟩ := H
      (try dsimp only at H); have A11 := mk_ A110; clear A110
      by_cases c12 : t133 = true
      ·subst c12; rw [if_pos rfl] at H
       replace H := Option.bind_eq_some_iff.mp H; obtain ⟨t134, A130, H⟩ := H
       (try dsimp only at H); have A13 := mk_ A130; clear A130
       by_cases c14 : t134 = true
       ·subst c14; rw [if_pos rfl] at H
        replace H := Option.bind_eq_some_iff.mp H; obtain ⟨t135, A150, H⟩ := H
        (try dsimp only at H); have A15 := mk_ A150; clear A150
        have H' := mk_ H
        clear H
        go_wp2_with (first | (go_at_call 46; (with_reducible refine (spec_l1In.calls (l0_0.length : Int) 2 10 true _ A5.out).mono ?_); rintro e w' ⟨rfl, ⟨nd, rfl⟩⟩; (try first | exact ⟨rfl, _, World.drewN_drewN _ _ _⟩ | exact ⟨rfl, _, Eq.trans (World.drewN_drewN _ _ _) (congrArg (World.drewN _) (Nat.add_assoc _ _ _))⟩); have hcz16_0 := bc0_ BK130; have hcz16_1 := bc1_ BK130; have hcz16_2 := bc2_ BK130; have hfz16_0 := bf_ BK130 0; have hfz16_1 := bf_ BK130 1; have hfz16_2 := bf_ BK130 2) | (go_at_call 61; (with_reducible refine (spec_l1Rise.calls k _ _ l0_0 true _ ?side1 ?side2 A9.out).mono ?_); (case side1 => repeat (first | exact (Kd.C_below HR0_0.out (hw_ HB)) | (with_reducible refine Kd.C_alloc ?_ _) | (with_reducible refine Kd.C_drewN ?_ _) | (with_reducible refine Kd.C_drew ?_))); (case side2 => exact HC0_0.out); rintro e w' ⟨rfl, ⟨nd, rfl⟩⟩; (try first | exact ⟨rfl, _, World.drewN_drewN _ _ _⟩ | exact ⟨rfl, _, Eq.trans (World.drewN_drewN _ _ _) (congrArg (World.drewN _) (Nat.add_assoc _ _ _))⟩)) | (go_at_call 62; (with_reducible refine (spec_l1All.calls k _ _ l0_0 0 400000 true _ ?side1 ?side2 A11.out).mono ?_); (case side1 => repeat (first | exact (Kd.C_below HR0_0.out (hw_ HB)) | (with_reducible refine Kd.C_alloc ?_ _) | (with_reducible refine Kd.C_drewN ?_ _) | (with_reducible refine Kd.C_drew ?_))); (case side2 => exact HC0_0.out); rintro e w' ⟨rfl, ⟨nd, rfl⟩⟩; (try first | exact ⟨rfl, _, World.drewN_drewN _ _ _⟩ | exact ⟨rfl, _, Eq.trans (World.drewN_drewN _ _ _) (congrArg (World.drewN _) (Nat.add_assoc _ _ _))⟩)) | (go_at_call 62; (with_reducible refine (spec_l1All.calls k _ _ l0_1 (-1000) 1000 true _ ?side1 ?side2 A13.out).mono ?_); (case side1 => repeat (first | exact (Kd.C_below HR0_1.out (hw_ HB)) | (with_reducible refine Kd.C_alloc ?_ _) | (with_reducible refine Kd.C_drewN ?_ _) | (with_reducible refine Kd.C_drew ?_))); (case side2 => exact HC0_1.out); rintro e w' ⟨rfl, ⟨nd, rfl⟩⟩; (try first | exact ⟨rfl, _, World.drewN_drewN _ _ _⟩ | exact ⟨rfl, _, Eq.trans (World.drewN_drewN _ _ _) (congrArg (World.drewN _) (Nat.add_assoc _ _ _))⟩)) | (go_at_call 62; (with_reducible refine (spec_l1All.calls k _ _ l0_2 (-1000) 1000 t135 _ ?side1 ?side2 A15.out).mono ?_); (case side1 => repeat (first | exact (Kd.C_below HR0_2.out (hw_ HB)) | (with_reducible refine Kd.C_alloc ?_ _) | (with_reducible refine Kd.C_drewN ?_ _) | (with_reducible refine Kd.C_drew ?_))); (case side2 => exact HC0_2.out); rintro e w' ⟨rfl, ⟨nd, rfl⟩⟩; (try first | exact ⟨rfl, _, World.drewN_drewN _ _ _⟩ | exact ⟨rfl, _, Eq.trans (World.drewN_drewN _ _ _) (congrArg (World.drewN _) (Nat.add_assoc _ _ _))⟩)))
        (try (have hcz16_0 := bc0_ BK130; have hcz16_1 := bc1_ BK130; have hcz16_2 := bc2_ BK130; have hfz16_0 := bf_ BK130 0; have hfz16_1 := bf_ BK130 1; have hfz16_2 := bf_ BK130 2))
        repeat (go_quiet (first | (go_at_call 46; (with_reducible refine (spec_l1In.calls (l0_0.length : Int) 2 10 true _ A5.out).mono ?_); rintro e w' ⟨rfl, ⟨nd, rfl⟩⟩; (try first | exact ⟨rfl, _, World.drewN_drewN _ _ _⟩ | exact ⟨rfl, _, Eq.trans (World.drewN_drewN _ _ _) (congrArg (World.drewN _) (Nat.add_assoc _ _ _))⟩)) | (go_at_call 61; (with_reducible refine (spec_l1Rise.calls k _ _ l0_0 true _ ?side1 ?side2 A9.out).mono ?_); (case side1 => repeat (first | exact (Kd.C_below HR0_0.out (hw_ HB)) | (with_reducible refine Kd.C_alloc ?_ _) | (with_reducible refine Kd.C_drewN ?_ _) | (with_reducible refine Kd.C_drew ?_))); (case side2 => exact HC0_0.out); rintro e w' ⟨rfl, ⟨nd, rfl⟩⟩; (try first | exact ⟨rfl, _, World.drewN_drewN _ _ _⟩ | exact ⟨rfl, _, Eq.trans (World.drewN_drewN _ _ _) (congrArg (World.drewN _) (Nat.add_assoc _ _ _))⟩)) | (go_at_call 62; (with_reducible refine (spec_l1All.calls k _ _ l0_0 0 400000 true _ ?side1 ?side2 A11.out).mono ?_); (case side1 => repeat (first | exact (Kd.C_below HR0_0.out (hw_ HB)) | (with_reducible refine Kd.C_alloc ?_ _) | (with_reducible refine Kd.C_drewN ?_ _) | (with_reducible refine Kd.C_drew ?_))); (case side2 => exact HC0_0.out); rintro e w' ⟨rfl, ⟨nd, rfl⟩⟩; (try first | exact ⟨rfl, _, World.drewN_drewN _ _ _⟩ | exact ⟨rfl, _, Eq.trans (World.drewN_drewN _ _ _) (congrArg (World.drewN _) (Nat.add_assoc _ _ _))⟩)) | (go_at_call 62; (with_reducible refine (spec_l1All.calls k _ _ l0_1 (-1000) 1000 true _ ?side1 ?side2 A13.out).mono ?_); (case side1 => repeat (first | exact (Kd.C_below HR0_1.out (hw_ HB)) | (with_reducible refine Kd.C_alloc ?_ _) | (with_reducible refine Kd.C_drewN ?_ _) | (with_reducible refine Kd.C_drew ?_))); (case side2 => exact HC0_1.out); rintro e w' ⟨rfl, ⟨nd, rfl⟩⟩; (try first | exact ⟨rfl, _, World.drewN_drewN _ _ _⟩ | exact ⟨rfl, _, Eq.trans (World.drewN_drewN _ _ _) (congrArg (World.drewN _) (Nat.add_assoc _ _ _))⟩)) | (go_at_call 62; (with_reducible refine (spec_l1All.calls k _ _ l0_2 (-1000) 1000 t135 _ ?side1 ?side2 A15.out).mono ?_); (case side1 => repeat (first | exact (Kd.C_below HR0_2.out (hw_ HB)) | (with_reducible refine Kd.C_alloc ?_ _) | (with_reducible refine Kd.C_drewN ?_ _) | (with_reducible refine Kd.C_drew ?_))); (case side2 => exact HC0_2.out); rintro e w' ⟨rfl, ⟨nd, rfl⟩⟩; (try first | exact ⟨rfl, _, World.drewN_drewN _ _ _⟩ | exact ⟨rfl, _, Eq.trans (World.drewN_drewN _ _ _) (congrArg (World.drewN _) (Nat.add_assoc _ _ _))⟩))); try go_wp2_with (first | (go_at_call 46; (with_reducible refine (spec_l1In.calls (l0_0.length : Int) 2 10 true _ A5.out).mono ?_); rintro e w' ⟨rfl, ⟨nd, rfl⟩⟩; (try first | exact ⟨rfl, _, World.drewN_drewN _ _ _⟩ | exact ⟨rfl, _, Eq.trans (World.drewN_drewN _ _ _) (congrArg (World.drewN _) (Nat.add_assoc _ _ _))⟩); have hcz16_0 := bc0_ BK130; have hcz16_1 := bc1_ BK130; have hcz16_2 := bc2_ BK130; have hfz16_0 := bf_ BK130 0; have hfz16_1 := bf_ BK130 1; have hfz16_2 := bf_ BK130 2) | (go_at_call 61; (with_reducible refine (spec_l1Rise.calls k _ _ l0_0 true _ ?side1 ?side2 A9.out).mono ?_); (case side1 => repeat (first | exact (Kd.C_below HR0_0.out (hw_ HB)) | (with_reducible refine Kd.C_alloc ?_ _) | (with_reducible refine Kd.C_drewN ?_ _) | (with_reducible refine Kd.C_drew ?_))); (case side2 => exact HC0_0.out); rintro e w' ⟨rfl, ⟨nd, rfl⟩⟩; (try first | exact ⟨rfl, _, World.drewN_drewN _ _ _⟩ | exact ⟨rfl, _, Eq.trans (World.drewN_drewN _ _ _) (congrArg (World.drewN _) (Nat.add_assoc _ _ _))⟩)) | (go_at_call 62; (with_reducible refine (spec_l1All.calls k _ _ l0_0 0 400000 true _ ?side1 ?side2 A11.out).mono ?_); (case side1 => repeat (first | exact (Kd.C_below HR0_0.out (hw_ HB)) | (with_reducible refine Kd.C_alloc ?_ _) | (with_reducible refine Kd.C_drewN ?_ _) | (with_reducible refine Kd.C_drew ?_))); (case side2 => exact HC0_0.out); rintro e w' ⟨rfl, ⟨nd, rfl⟩⟩; (try first | exact ⟨rfl, _, World.drewN_drewN _ _ _⟩ | exact ⟨rfl, _, Eq.trans (World.drewN_drewN _ _ _) (congrArg (World.drewN _) (Nat.add_assoc _ _ _))⟩)) | (go_at_call 62; (with_reducible refine (spec_l1All.calls k _ _ l0_1 (-1000) 1000 true _ ?side1 ?side2 A13.out).mono ?_); (case side1 => repeat (first | exact (Kd.C_below HR0_1.out (hw_ HB)) | (with_reducible refine Kd.C_alloc ?_ _) | (with_reducible refine Kd.C_drewN ?_ _) | (with_reducible refine Kd.C_drew ?_))); (case side2 => exact HC0_1.out); rintro e w' ⟨rfl, ⟨nd, rfl⟩⟩; (try first | exact ⟨rfl, _, World.drewN_drewN _ _ _⟩ | exact ⟨rfl, _, Eq.trans (World.drewN_drewN _ _ _) (congrArg (World.drewN _) (Nat.add_assoc _ _ _))⟩)) | (go_at_call 62; (with_reducible refine (spec_l1All.calls k _ _ l0_2 (-1000) 1000 t135 _ ?side1 ?side2 A15.out).mono ?_); (case side1 => repeat (first | exact (Kd.C_below HR0_2.out (hw_ HB)) | (with_reducible refine Kd.C_alloc ?_ _) | (with_reducible refine Kd.C_drewN ?_ _) | (with_reducible refine Kd.C_drew ?_))); (case side2 => exact HC0_2.out); rintro e w' ⟨rfl, ⟨nd, rfl⟩⟩; (try first | exact ⟨rfl, _, World.drewN_drewN _ _ _⟩ | exact ⟨rfl, _, Eq.trans (World.drewN_drewN _ _ _) (congrArg (World.drewN _) (Nat.add_assoc _ _ _))⟩))))
        go_meet
        case rel => exact ⟨_, (!t135), rf_, H', ⟨by first | omega | exact Nat.le_refl _⟩, bw_ BK130, ⟨hw_ HB⟩⟩
       ·replace c14 := Bool.eq_false_iff.mpr c14; subst c14; rw [if_neg (show ¬ (false = true) by decide)] at H
        have H' := mk_ H
        clear H
        go_wp2_with (first | (go_at_call 46; (with_reducible refine (spec_l1In.calls (l0_0.length : Int) 2 10 true _ A5.out).mono ?_); rintro e w' ⟨rfl, ⟨nd, rfl⟩⟩; (try first | exact ⟨rfl, _, World.drewN_drewN _ _ _⟩ | exact ⟨rfl, _, Eq.trans (World.drewN_drewN _ _ _) (congrArg (World.drewN _) (Nat.add_assoc _ _ _))⟩); have hcz17_0 := bc0_ BK130; have hcz17_1 := bc1_ BK130; have hcz17_2 := bc2_ BK130; have hfz17_0 := bf_ BK130 0; have hfz17_1 := bf_ BK130 1; have hfz17_2 := bf_ BK130 2) | (go_at_call 61; (with_reducible refine (spec_l1Rise.calls k _ _ l0_0 true _ ?side1 ?side2 A9.out).mono ?_); (case side1 => repeat (first | exact (Kd.C_below HR0_0.out (hw_ HB)) | (with_reducible refine Kd.C_alloc ?_ _) | (with_reducible refine Kd.C_drewN ?_ _) | (with_reducible refine Kd.C_drew ?_))); (case side2 => exact HC0_0.out); rintro e w' ⟨rfl, ⟨nd, rfl⟩⟩; (try first | exact ⟨rfl, _, World.drewN_drewN _ _ _⟩ | exact ⟨rfl, _, Eq.trans (World.drewN_drewN _ _ _) (congrArg (World.drewN _) (Nat.add_assoc _ _ _))⟩)) | (go_at_call 62; (with_reducible refine (spec_l1All.calls k _ _ l0_0 0 400000 true _ ?side1 ?side2 A11.out).mono ?_); (case side1 => repeat (first | exact (Kd.C_below HR0_0.out (hw_ HB)) | (with_reducible refine Kd.C_alloc ?_ _) | (with_reducible refine Kd.C_drewN ?_ _) | (with_reducible refine Kd.C_drew ?_))); (case side2 => exact HC0_0.out); rintro e w' ⟨rfl, ⟨nd, rfl⟩⟩; (try first | exact ⟨rfl, _, World.drewN_drewN _ _ _⟩ | exact ⟨rfl, _, Eq.trans (World.drewN_drewN _ _ _) (congrArg (World.drewN _) (Nat.add_assoc _ _ _))⟩)) | (go_at_call 62; (with_reducible refine (spec_l1All.calls k _ _ l0_1 (-1000) 1000 false _ ?side1 ?side2 A13.out).mono ?_); (case side1 => repeat (first | exact (Kd.C_below HR0_1.out (hw_ HB)) | (with_reducible refine Kd.C_alloc ?_ _) | (with_reducible refine Kd.C_drewN ?_ _) | (with_reducible refine Kd.C_drew ?_))); (case side2 => exact HC0_1.out); rintro e w' ⟨rfl, ⟨nd, rfl⟩⟩; (try first | exact ⟨rfl, _, World.drewN_drewN _ _ _⟩ | exact ⟨rfl, _, Eq.trans (World.drewN_drewN _ _ _) (congrArg (World.drewN _) (Nat.add_assoc _ _ _))⟩)))
        (try (have hcz17_0 := bc0_ BK130; have hcz17_1 := bc1_ BK130; have hcz17_2 := bc2_ BK130; have hfz17_0 := bf_ BK130 0; have hfz17_1 := bf_ BK130 1; have hfz17_2 := bf_ BK130 2))
        repeat (go_quiet (first | (go_at_call 46; (with_reducible refine (spec_l1In.calls (l0_0.length : Int) 2 10 true _ A5.out).mono ?_); rintro e w' ⟨rfl, ⟨nd, rfl⟩⟩; (try first | exact ⟨rfl, _, World.drewN_drewN _ _ _⟩ | exact ⟨rfl, _, Eq.trans (World.drewN_drewN _ _ _) (congrArg (World.drewN _) (Nat.add_assoc _ _ _))⟩)) | (go_at_call 61; (with_reducible refine (spec_l1Rise.calls k _ _ l0_0 true _ ?side1 ?side2 A9.out).mono ?_); (case side1 => repeat (first | exact (Kd.C_below HR0_0.out (hw_ HB)) | (with_reducible refine Kd.C_alloc ?_ _) | (with_reducible refine Kd.C_drewN ?_ _) | (with_reducible refine Kd.C_drew ?_))); (case side2 => exact HC0_0.out); rintro e w' ⟨rfl, ⟨nd, rfl⟩⟩; (try first | exact ⟨rfl, _, World.drewN_drewN _ _ _⟩ | exact ⟨rfl, _, Eq.trans (World.drewN_drewN _ _ _) (congrArg (World.drewN _) (Nat.add_assoc _ _ _))⟩)) | (go_at_call 62; (with_reducible refine (spec_l1All.calls k _ _ l0_0 0 400000 true _ ?side1 ?side2 A11.out).mono ?_); (case side1 => repeat (first | exact (Kd.C_below HR0_0.out (hw_ HB)) | (with_reducible refine Kd.C_alloc ?_ _) | (with_reducible refine Kd.C_drewN ?_ _) | (with_reducible refine Kd.C_drew ?_))); (case side2 => exact HC0_0.out); rintro e w' ⟨rfl, ⟨nd, rfl⟩⟩; (try first | exact ⟨rfl, _, World.drewN_drewN _ _ _⟩ | exact ⟨rfl, _, Eq.trans (World.drewN_drewN _ _ _) (congrArg (World.drewN _) (Nat.add_assoc _ _ _))⟩)) | (go_at_call 62; (with_reducible refine (spec_l1All.calls k _ _ l0_1 (-1000) 1000 false _ ?side1 ?side2 A13.out).mono ?_); (case side1 => repeat (first | exact (Kd.C_below HR0_1.out (hw_ HB)) | (with_reducible refine Kd.C_alloc ?_ _) | (with_reducible refine Kd.C_drewN ?_ _) | (with_reducible refine Kd.C_drew ?_))); (case side2 => exact HC0_1.out); rintro e w' ⟨rfl, ⟨nd, rfl⟩⟩; (try first | exact ⟨rfl, _, World.drewN_drewN _ _ _⟩ | exact ⟨rfl, _, Eq.trans (World.drewN_drewN _ _ _) (congrArg (World.drewN _) (Nat.add_assoc _ _ _))⟩))); try go_wp2_with (first | (go_at_call 46; (with_reducible refine (spec_l1In.calls (l0_0.length : Int) 2 10 true _ A5.out).mono ?_); rintro e w' ⟨rfl, ⟨nd, rfl⟩⟩; (try first | exact ⟨rfl, _, World.drewN_drewN _ _ _⟩ | exact ⟨rfl, _, Eq.trans (World.drewN_drewN _ _ _) (congrArg (World.drewN _) (Nat.add_assoc _ _ _))⟩); have hcz17_0 := bc0_ BK130; have hcz17_1 := bc1_ BK130; have hcz17_2 := bc2_ BK130; have hfz17_0 := bf_ BK130 0; have hfz17_1 := bf_ BK130 1; have hfz17_2 := bf_ BK130 2) | (go_at_call 61; (with_reducible refine (spec_l1Rise.calls k _ _ l0_0 true _ ?side1 ?side2 A9.out).mono ?_); (case side1 => repeat (first | exact (Kd.C_below HR0_0.out (hw_ HB)) | (with_reducible refine Kd.C_alloc ?_ _) | (with_reducible refine Kd.C_drewN ?_ _) | (with_reducible refine Kd.C_drew ?_))); (case side2 => exact HC0_0.out); rintro e w' ⟨rfl, ⟨nd, rfl⟩⟩; (try first | exact ⟨rfl, _, World.drewN_drewN _ _ _⟩ | exact ⟨rfl, _, Eq.trans (World.drewN_drewN _ _ _) (congrArg (World.drewN _) (Nat.add_assoc _ _ _))⟩)) | (go_at_call 62; (with_reducible refine (spec_l1All.calls k _ _ l0_0 0 400000 true _ ?side1 ?side2 A11.out).mono ?_); (case side1 => repeat (first | exact (Kd.C_below HR0_0.out (hw_ HB)) | (with_reducible refine Kd.C_alloc ?_ _) | (with_reducible refine Kd.C_drewN ?_ _) | (with_reducible refine Kd.C_drew ?_))); (case side2 => exact HC0_0.out); rintro e w' ⟨rfl, ⟨nd, rfl⟩⟩; (try first | exact ⟨rfl, _, World.drewN_drewN _ _ _⟩ | exact ⟨rfl, _, Eq.trans (World.drewN_drewN _ _ _) (congrArg (World.drewN _) (Nat.add_assoc _ _ _))⟩)) | (go_at_call 62; (with_reducible refine (spec_l1All.calls k _ _ l0_1 (-1000) 1000 false _ ?side1 ?side2 A13.out).mono ?_); (case side1 => repeat (first | exact (Kd.C_below HR0_1.out (hw_ HB)) | (with_reducible refine Kd.C_alloc ?_ _) | (with_reducible refine Kd.C_drewN ?_ _) | (with_reducible refine Kd.C_drew ?_))); (case side2 => exact HC0_1.out); rintro e w' ⟨rfl, ⟨nd, rfl⟩⟩; (try first | exact ⟨rfl, _, World.drewN_drewN _ _ _⟩ | exact ⟨rfl, _, Eq.trans (World.drewN_drewN _ _ _) (congrArg (World.drewN _) (Nat.add_assoc _ _ _))⟩))))
        go_meet
        case rel => exact ⟨_, (true), rf_, H', ⟨by first | omega | exact Nat.le_refl _⟩, bw_ BK130, ⟨hw_ HB⟩⟩
      ·replace c12 := Bool.eq_false_iff.mpr c12; subst c12; rw [if_neg (show ¬ (false = true) by decide)] at H
       have H' := mk_ H
       clear H
       go_wp2_with (first | (go_at_call 46; (with_reducible refine (spec_l1In.calls (l0_0.length : Int) 2 10 true _ A5.out).mono ?_); rintro e w' ⟨rfl, ⟨nd, rfl⟩⟩; (try first | exact ⟨rfl, _, World.drewN_drewN _ _ _⟩ | exact ⟨rfl, _, Eq.trans (World.drewN_drewN _ _ _) (congrArg (World.drewN _) (Nat.add_assoc _ _ _))⟩); have hcz18_0 := bc0_ BK130; have hcz18_1 := bc1_ BK130; have hcz18_2 := bc2_ BK130; have hfz18_0 := bf_ BK130 0; have hfz18_1 := bf_ BK130 1; have hfz18_2 := bf_ BK130 2) | (go_at_call 61; (with_reducible refine (spec_l1Rise.calls k _ _ l0_0 true _ ?side1 ?side2 A9.out).mono ?_); (case side1 => repeat (first | exact (Kd.C_below HR0_0.out (hw_ HB)) | (with_reducible refine Kd.C_alloc ?_ _) | (with_reducible refine Kd.C_drewN ?_ _) | (with_reducible refine Kd.C_drew ?_))); (case side2 => exact HC0_0.out); rintro e w' ⟨rfl, ⟨nd, rfl⟩⟩; (try first | exact ⟨rfl, _, World.drewN_drewN _ _ _⟩ | exact ⟨rfl, _, Eq.trans (World.drewN_drewN _ _ _) (congrArg (World.drewN _) (Nat.add_assoc _ _ _))⟩)) | (go_at_call 62; (with_reducible refine (spec_l1All.calls k _ _ l0_0 0 400000 false _ ?side1 ?side2 A11.out).mono ?_); (case side1 => repeat (first | exact (Kd.C_below HR0_0.out (hw_ HB)) | (with_reducible refine Kd.C_alloc ?_ _) | (with_reducible refine Kd.C_drewN ?_ _) | (with_reducible refine Kd.C_drew ?_))); (case side2 => exact HC0_0.out); rintro e w' ⟨rfl, ⟨nd, rfl⟩⟩; (try first | exact ⟨rfl, _, World.drewN_drewN _ _ _⟩ | exact ⟨rfl, _, Eq.trans (World.drewN_drewN _ _ _) (congrArg (World.drewN _) (Nat.add_assoc _ _ _))⟩)))
       (try (have hcz18_0 := bc0_ BK130; have hcz18_1 := bc1_ BK130; have hcz18_2 := bc2_ BK130; have hfz18_0 := bf_ BK130 0; have hfz18_1 := bf_ BK130 1; have hfz18_2 := bf_ BK130 2))
       repeat (go_quiet (first | (go_at_call 46; (with_reducible refine (spec_l1In.calls (l0_0.length : Int) 2 10 true _ A5.out).mono ?_); rintro e w' ⟨rfl, ⟨nd, rfl⟩⟩; (try first | exact ⟨rfl, _, World.drewN_drewN _ _ _⟩ | exact ⟨rfl, _, Eq.trans (World.drewN_drewN _ _ _) (congrArg (World.drewN _) (Nat.add_assoc _ _ _))⟩)) | (go_at_call 61; (with_reducible refine (spec_l1Rise.calls k _ _ l0_0 true _ ?side1 ?side2 A9.out).mono ?_); (case side1 => repeat (first | exact (Kd.C_below HR0_0.out (hw_ HB)) | (with_reducible refine Kd.C_alloc ?_ _) | (with_reducible refine Kd.C_drewN ?_ _) | (with_reducible refine Kd.C_drew ?_))); (case side2 => exact HC0_0.out); rintro e w' ⟨rfl, ⟨nd, rfl⟩⟩; (try first | exact ⟨rfl, _, World.drewN_drewN _ _ _⟩ | exact ⟨rfl, _, Eq.trans (World.drewN_drewN _ _ _) (congrArg (World.drewN _) (Nat.add_assoc _ _ _))⟩)) | (go_at_call 62; (with_reducible refine (spec_l1All.calls k _ _ l0_0 0 400000 false _ ?side1 ?side2 A11.out).mono ?_); (case side1 => repeat (first | exact (Kd.C_below HR0_0.out (hw_ HB)) | (with_reducible refine Kd.C_alloc ?_ _) | (with_reducible refine Kd.C_drewN ?_ _) | (with_reducible refine Kd.C_drew ?_))); (case side2 => exact HC0_0.out); rintro e w' ⟨rfl, ⟨nd, rfl⟩⟩; (try first | exact ⟨rfl, _, World.drewN_drewN _ _ _⟩ | exact ⟨rfl, _, Eq.trans (World.drewN_drewN _ _ _) (congrArg (World.drewN _) (Nat.add_assoc _ _ _))⟩))); try go_wp2_with (first | (go_at_call 46; (with_reducible refine (spec_l1In.calls (l0_0.length : Int) 2 10 true _ A5.out).mono ?_); rintro e w' ⟨rfl, ⟨nd, rfl⟩⟩; (try first | exact ⟨rfl, _, World.drewN_drewN _ _ _⟩ | exact ⟨rfl, _, Eq.trans (World.drewN_drewN _ _ _) (congrArg (World.drewN _) (Nat.add_assoc _ _ _))⟩); have hcz18_0 := bc0_ BK130; have hcz18_1 := bc1_ BK130; have hcz18_2 := bc2_ BK130; have hfz18_0 := bf_ BK130 0; have hfz18_1 := bf_ BK130 1; have hfz18_2 := bf_ BK130 2) | (go_at_call 61; (with_reducible refine (spec_l1Rise.calls k _ _ l0_0 true _ ?side1 ?side2 A9.out).mono ?_); (case side1 => repeat (first | exact (Kd.C_below HR0_0.out (hw_ HB)) | (with_reducible refine Kd.C_alloc ?_ _) | (with_reducible refine Kd.C_drewN ?_ _) | (with_reducible refine Kd.C_drew ?_))); (case side2 => exact HC0_0.out); rintro e w' ⟨rfl, ⟨nd, rfl⟩⟩; (try first | exact ⟨rfl, _, World.drewN_drewN _ _ _⟩ | exact ⟨rfl, _, Eq.trans (World.drewN_drewN _ _ _) (congrArg (World.drewN _) (Nat.add_assoc _ _ _))⟩)) | (go_at_call 62; (with_reducible refine (spec_l1All.calls k _ _ l0_0 0 400000 false _ ?side1 ?side2 A11.out).mono ?_); (case side1 => repeat (first | exact (Kd.C_below HR0_0.out (hw_ HB)) | (with_reducible refine Kd.C_alloc ?_ _) | (with_reducible refine Kd.C_drewN ?_ _) | (with_reducible refine Kd.C_drew ?_))); (case side2 => exact HC0_0.out); rintro e w' ⟨rfl, ⟨nd, rfl⟩⟩; (try first | exact ⟨rfl, _, World.drewN_drewN _ _ _⟩ | exact ⟨rfl, _, Eq.trans (World.drewN_drewN _ _ _) (congrArg (World.drewN _) (Nat.add_assoc _ _ _))⟩))))
       go_meet
       case rel => exact ⟨_, (true), rf_, H', ⟨by first | omega | exact Nat.le_refl _⟩, bw_ BK130, ⟨hw_ HB⟩⟩
     ·replace c10 := Bool.eq_false_iff.mpr c10; subst c10; rw [if_neg (show ¬ (false = true) by decide)] at H
      have H' := mk_ H
      clear H
      go_wp2_with (first | (go_at_call 46; (with_reducible refine (spec_l1In.calls (l0_0.length : Int) 2 10 true _ A5.out).mono ?_); rintro e w' ⟨rfl, ⟨nd, rfl⟩⟩; (try first | exact ⟨rfl, _, World.drewN_drewN _ _ _⟩ | exact ⟨rfl, _, Eq.trans (World.drewN_drewN _ _ _) (congrArg (World.drewN _) (Nat.add_assoc _ _ _))⟩); have hcz19_0 := bc0_ BK130; have hcz19_1 := bc1_ BK130; have hcz19_2 := bc2_ BK130; have hfz19_0 := bf_ BK130 0; have hfz19_1 := bf_ BK130 1; have hfz19_2 := bf_ BK130 2) | (go_at_call 61; (with_reducible refine (spec_l1Rise.calls k _ _ l0_0 false _ ?side1 ?side2 A9.out).mono ?_); (case side1 => repeat (first | exact (Kd.C_below HR0_0.out (hw_ HB)) | (with_reducible refine Kd.C_alloc ?_ _) | (with_reducible refine Kd.C_drewN ?_ _) | (with_reducible refine Kd.C_drew ?_))); (case side2 => exact HC0_0.out); rintro e w' ⟨rfl, ⟨nd, rfl⟩⟩; (try first | exact ⟨rfl, _, World.drewN_drewN _ _ _⟩ | exact ⟨rfl, _, Eq.trans (World.drewN_drewN _ _ _) (congrArg (World.drewN _) (Nat.add_assoc _ _ _))⟩)))
      (try (have hcz19_0 := bc0_ BK130; have hcz19_1 := bc1_ BK130; have hcz19_2 := bc2_ BK130; have hfz19_0 := bf_ BK130 0; have hfz19_1 := bf_ BK130 1; have hfz19_2 := bf_ BK130 2))
      repeat (go_quiet (first | (go_at_call 46; (with_reducible refine (spec_l1In.calls (l0_0.length : Int) 2 10 true _ A5.out).mono ?_); rintro e w' ⟨rfl, ⟨nd, rfl⟩⟩; (try first | exact ⟨rfl, _, World.drewN_drewN _ _ _⟩ | exact ⟨rfl, _, Eq.trans (World.drewN_drewN _ _ _) (congrArg (World.drewN _) (Nat.add_assoc _ _ _))⟩)) | (go_at_call 61; (with_reducible refine (spec_l1Rise.calls k _ _ l0_0 false _ ?side1 ?side2 A9.out).mono ?_); (case side1 => repeat (first | exact (Kd.C_below HR0_0.out (hw_ HB)) | (with_reducible refine Kd.C_alloc ?_ _) | (with_reducible refine Kd.C_drewN ?_ _) | (with_reducible refine Kd.C_drew ?_))); (case side2 => exact HC0_0.out); rintro e w' ⟨rfl, ⟨nd, rfl⟩⟩; (try first | exact ⟨rfl, _, World.drewN_drewN _ _ _⟩ | exact ⟨rfl, _, Eq.trans (World.drewN_drewN _ _ _) (congrArg (World.drewN _) (Nat.add_assoc _ _ _))⟩))); try go_wp2_with (first | (go_at_call 46; (with_reducible refine (spec_l1In.calls (l0_0.length : Int) 2 10 true _ A5.out).mono ?_); rintro e w' ⟨rfl, ⟨nd, rfl⟩⟩; (try first | exact ⟨rfl, _, World.drewN_drewN _ _ _⟩ | exact ⟨rfl, _, Eq.trans (World.drewN_drewN _ _ _) (congrArg (World.drewN _) (Nat.add_assoc _ _ _))⟩); have hcz19_0 := bc0_ BK130; have hcz19_1 := bc1_ BK130; have hcz19_2 := bc2_ BK130; have hfz19_0 := bf_ BK130 0; have hfz19_1 := bf_ BK130 1; have hfz19_2 := bf_ BK130 2) | (go_at_call 61; (with_reducible refine (spec_l1Rise.calls k _ _ l0_0 false _ ?side1 ?side2 A9.out).mono ?_); (case side1 => repeat (first | exact (Kd.C_below HR0_0.out (hw_ HB)) | (with_reducible refine Kd.C_alloc ?_ _) | (with_reducible refine Kd.C_drewN ?_ _) | (with_reducible refine Kd.C_drew ?_))); (case side2 => exact HC0_0.out); rintro e w' ⟨rfl, ⟨nd, rfl⟩⟩; (try first | exact ⟨rfl, _, World.drewN_drewN _ _ _⟩ | exact ⟨rfl, _, Eq.trans (World.drewN_drewN _ _ _) (congrArg (World.drewN _) (Nat.add_assoc _ _ _))⟩))))
      go_meet
      case rel => exact ⟨_, (true), rf_, H', ⟨by first | omega | exact Nat.le_refl _⟩, bw_ BK130, ⟨hw_ HB⟩⟩
    ·rw [if_neg c8] at H; have c8b0 : ((l0_2.length : Int) == (l0_0.length : Int)) = false := beq_eq_false_iff_ne.mpr c8; have c8b1 : ((l0_2.length : Int) != (l0_0.length : Int)) = true := bne_iff_ne.mpr c8
     have c8b2 : (l0_2.length == l0_0.length) = false := by first | simpa using c8 | (simp at c8 ⊢; omega)
     have H' := mk_ H
     clear H
     go_wp2_with (first | (go_at_call 46; (with_reducible refine (spec_l1In.calls (l0_0.length : Int) 2 10 true _ A5.out).mono ?_); rintro e w' ⟨rfl, ⟨nd, rfl⟩⟩; (try first | exact ⟨rfl, _, World.drewN_drewN _ _ _⟩ | exact ⟨rfl, _, Eq.trans (World.drewN_drewN _ _ _) (congrArg (World.drewN _) (Nat.add_assoc _ _ _))⟩); have hcz20_0 := bc0_ BK130; have hcz20_1 := bc1_ BK130; have hcz20_2 := bc2_ BK130; have hfz20_0 := bf_ BK130 0; have hfz20_1 := bf_ BK130 1; have hfz20_2 := bf_ BK130 2))
     (try (have hcz20_0 := bc0_ BK130; have hcz20_1 := bc1_ BK130; have hcz20_2 := bc2_ BK130; have hfz20_0 := bf_ BK130 0; have hfz20_1 := bf_ BK130 1; have hfz20_2 := bf_ BK130 2))
     repeat (go_quiet (first | (go_at_call 46; (with_reducible refine (spec_l1In.calls (l0_0.length : Int) 2 10 true _ A5.out).mono ?_); rintro e w' ⟨rfl, ⟨nd, rfl⟩⟩; (try first | exact ⟨rfl, _, World.drewN_drewN _ _ _⟩ | exact ⟨rfl, _, Eq.trans (World.drewN_drewN _ _ _) (congrArg (World.drewN _) (Nat.add_assoc _ _ _))⟩))); try go_wp2_with (first | (go_at_call 46; (with_reducible refine (spec_l1In.calls (l0_0.length : Int) 2 10 true _ A5.out).mono ?_); rintro e w' ⟨rfl, ⟨nd, rfl⟩⟩; (try first | exact ⟨rfl, _, World.drewN_drewN _ _ _⟩ | exact ⟨rfl, _, Eq.trans (World.drewN_drewN _ _ _) (congrArg (World.drewN _) (Nat.add_assoc _ _ _))⟩); have hcz20_0 := bc0_ BK130; have hcz20_1 := bc1_ BK130; have hcz20_2 := bc2_ BK130; have hfz20_0 := bf_ BK130 0; have hfz20_1 := bf_ BK130 1; have hfz20_2 := bf_ BK130 2)))
     go_meet
     case rel => exact ⟨_, (true), rf_, H', ⟨by first | omega | exact Nat.le_refl _⟩, bw_ BK130, ⟨hw_ HB⟩⟩
   ·rw [if_neg c7] at H; have c7b0 : ((l0_1.length : Int) == (l0_0.length : Int)) = false := beq_eq_false_iff_ne.mpr c7; have c7b1 : ((l0_1.length : Int) != (l0_0.length : Int)) = true := bne_iff_ne.mpr c7
    have c7b2 : (l0_1.length == l0_0.length) = false := by first | simpa using c7 | (simp at c7 ⊢; omega)
    (first | rw [c7b0] | (simp only [i64_w, i32_w]; rw [c7b0]) | skip)
    have H' := mk_ H
    clear H
    go_wp2_with (first | (go_at_call 46; (with_reducible refine (spec_l1In.calls (l0_0.length : Int) 2 10 true _ A5.out).mono ?_); rintro e w' ⟨rfl, ⟨nd, rfl⟩⟩; (try first | exact ⟨rfl, _, World.drewN_drewN _ _ _⟩ | exact ⟨rfl, _, Eq.trans (World.drewN_drewN _ _ _) (congrArg (World.drewN _) (Nat.add_assoc _ _ _))⟩); have hcz21_0 := bc0_ BK130; have hcz21_1 := bc1_ BK130; have hcz21_2 := bc2_ BK130; have hfz21_0 := bf_ BK130 0; have hfz21_1 := bf_ BK130 1; have hfz21_2 := bf_ BK130 2))
    (try (have hcz21_0 := bc0_ BK130; have hcz21_1 := bc1_ BK130; have hcz21_2 := bc2_ BK130; have hfz21_0 := bf_ BK130 0; have hfz21_1 := bf_ BK130 1; have hfz21_2 := bf_ BK130 2))
    repeat (go_quiet (first | (go_at_call 46; (with_reducible refine (spec_l1In.calls (l0_0.length : Int) 2 10 true _ A5.out).mono ?_); rintro e w' ⟨rfl, ⟨nd, rfl⟩⟩; (try first | exact ⟨rfl, _, World.drewN_drewN _ _ _⟩ | exact ⟨rfl, _, Eq.trans (World.drewN_drewN _ _ _) (congrArg (World.drewN _) (Nat.add_assoc _ _ _))⟩))); try go_wp2_with (first | (go_at_call 46; (with_reducible refine (spec_l1In.calls (l0_0.length : Int) 2 10 true _ A5.out).mono ?_); rintro e w' ⟨rfl, ⟨nd, rfl⟩⟩; (try first | exact ⟨rfl, _, World.drewN_drewN _ _ _⟩ | exact ⟨rfl, _, Eq.trans (World.drewN_drewN _ _ _) (congrArg (World.drewN _) (Nat.add_assoc _ _ _))⟩); have hcz21_0 := bc0_ BK130; have hcz21_1 := bc1_ BK130; have hcz21_2 := bc2_ BK130; have hfz21_0 := bf_ BK130 0; have hfz21_1 := bf_ BK130 1; have hfz21_2 := bf_ BK130 2)))
    go_meet
    case rel => exact ⟨_, (true), rf_, H', ⟨by first | omega | exact Nat.le_refl _⟩, bw_ BK130, ⟨hw_ HB⟩⟩
  ·replace c6 := Bool.eq_false_iff.mpr c6; subst c6; rw [if_neg (show ¬ (false = true) by decide)] at H
   have H' := mk_ H
   clear H
   go_wp2_with (first | (go_at_call 46; (with_reducible refine (spec_l1In.calls (l0_0.length : Int) 2 10 false _ A5.out).mono ?_); rintro e w' ⟨rfl, ⟨nd, rfl⟩⟩; (try first | exact ⟨rfl, _, World.drewN_drewN _ _ _⟩ | exact ⟨rfl, _, Eq.trans (World.drewN_drewN _ _ _) (congrArg (World.drewN _) (Nat.add_assoc _ _ _))⟩)))
   repeat (go_quiet (first | (go_at_call 46; (with_reducible refine (spec_l1In.calls (l0_0.length : Int) 2 10 false _ A5.out).mono ?_); rintro e w' ⟨rfl, ⟨nd, rfl⟩⟩; (try first | exact ⟨rfl, _, World.drewN_drewN _ _ _⟩ | exact ⟨rfl, _, Eq.trans (World.drewN_drewN _ _ _) (congrArg (World.drewN _) (Nat.add_assoc _ _ _))⟩))); try go_wp2_with (first | (go_at_call 46; (with_reducible refine (spec_l1In.calls (l0_0.length : Int) 2 10 false _ A5.out).mono ?_); rintro e w' ⟨rfl, ⟨nd, rfl⟩⟩; (try first | exact ⟨rfl, _, World.drewN_drewN _ _ _⟩ | exact ⟨rfl, _, Eq.trans (World.drewN_drewN _ _ _) (congrArg (World.drewN _) (Nat.add_assoc _ _ _))⟩))))
   go_meet
   case rel => exact ⟨_, (true), rf_, H', ⟨by first | omega | exact Nat.le_refl _⟩, bw_ BK130, ⟨hw_ HB⟩⟩
 case rest =>
  clear HC2
  obtain ⟨kq, x48_1, rfl, HA, HJ1, BK130, HB⟩ := hcut
  cases kq with
  | zero => exact absurd HA.out (by simp [spec_EnvelopeOk.j0])
  | succ kj1 =>
   have H := HA.out; clear HA
   simp only [spec_EnvelopeOk.j0] at H
   by_cases c22 : x48_1 = true
   ·subst c22; rw [if_pos rfl] at H
    obtain rfl := Option.some.inj H; go_wp2
    repeat (go_quiet (fail); try go_wp2)
    go_ret
    exact ⟨re_, hw_ HB⟩
   ·replace c22 := Bool.eq_false_iff.mpr c22; subst c22; rw [if_neg (show ¬ (false = true) by decide)] at H
    have H' := mk_ H
    clear H; go_wp2
    repeat (go_quiet (fail); try go_wp2)
    go_loopg [4] kj1 (fun kq v4 w' => ∃ (x4_2 : Int), v4 = .int .i64 x4_2 ∧ Aside0 (spec_EnvelopeOk.l0 kq (l0_0.length : Int) x4_2 l0_0 l0_1 l0_2 = some r) ∧ Aside0 (kq ≤ kj1) ∧ Aside0 (w'.heap[gb130]? = some (.cells #[(.slice A0_0 l0_0.length c0_0), (.slice A0_1 l0_1.length c0_1), (.slice A0_2 l0_2.length c0_2)] 33 (0, 0))) ∧ Aside0 (Below w.heap.size w w'))
    case atStart => exact ⟨(0), rf_, H', ⟨Nat.le_refl _⟩, bw_ BK130, ⟨hw_ HB⟩⟩
    case round =>
     clear H'; (try clear c22)
     obtain ⟨x4_2, rfl, HA, HK2, BK130, HB⟩ := hrel
     cases gk with
     | zero => exact absurd HA.out (by simp [spec_EnvelopeOk.l0])
     | succ k2 =>
      have H := HA.out; clear HA
      simp only [spec_EnvelopeOk.l0] at H
      by_cases c23 : x4_2 < (l0_0.length : Int)
      ·rw [if_pos c23] at H; have c23b0 : decide (x4_2 < (l0_0.length : Int)) = true := decide_eq_true c23; clear c23; by_cases c24 : 0 ≤ x4_2
       ·rw [if_pos c24] at H; have c24b0 : decide (0 ≤ x4_2) = true := decide_eq_true c24; clear c24; by_cases c25 : x4_2 < (l0_1.length : Int)
        ·rw [if_pos c25] at H; have c25b0 : decide (x4_2 < (l0_1.length : Int)) = true := decide_eq_true c25; clear c25; by_cases c26 : x4_2 < (l0_2.length : Int)
         ·rw [if_pos c26] at H; have c26b0 : decide (x4_2 < (l0_2.length : Int)) = true := decide_eq_true c26; clear c26; by_cases c27 : (rd l0_1 x4_2) > (rd l0_2 x4_2)
          ·rw [if_pos c27] at H; have c27b0 : decide ((rd l0_2 x4_2) < (rd l0_1 x4_2)) = true := decide_eq_true c27; clear c27; obtain rfl := Option.some.inj H; have hcz28_0 := bc0_ BK130; have hcz28_1 := bc1_ BK130; have hcz28_2 := bc2_ BK130; have hfz28_0 := bf_ BK130 0; have hfz28_1 := bf_ BK130 1; have hfz28_2 := bf_ BK130 2
           have p136 : 0 ≤ (x4_2 : Int) := od_
           have q136 : x4_2 < (l0_1.length : Int) := od_
           obtain ⟨ad136, e136, hx136_0⟩ := Kd.at_int HR0_1.out x4_2 p136 q136; cases e136
           replace hx136_0 := (HB.out.cell (World.block_lt_of_cell? w _ hx136_0)).trans hx136_0
           replace p136 := eq_true p136; replace q136 := eq_true q136
           have p137 : 0 ≤ (x4_2 : Int) := od_
           have q137 : x4_2 < (l0_2.length : Int) := od_
           obtain ⟨ad137, e137, hx137_0⟩ := Kd.at_int HR0_2.out x4_2 p137 q137; cases e137
           replace hx137_0 := (HB.out.cell (World.block_lt_of_cell? w _ hx137_0)).trans hx137_0
           replace p137 := eq_true p137; replace q137 := eq_true q137; go_wp2
           repeat (go_quiet (fail); try go_wp2)
           go_ret
           exact ⟨re_, hw_ HB⟩
          ·rw [if_neg c27] at H; have c27b0 : decide ((rd l0_2 x4_2) < (rd l0_1 x4_2)) = false := decide_eq_false c27; clear c27
           have H' := mk_ H
           clear H; have hcz29_0 := bc0_ BK130; have hcz29_1 := bc1_ BK130; have hcz29_2 := bc2_ BK130; have hfz29_0 := bf_ BK130 0; have hfz29_1 := bf_ BK130 1; have hfz29_2 := bf_ BK130 2
           have p136 : 0 ≤ (x4_2 : Int) := od_
           have q136 : x4_2 < (l0_1.length : Int) := od_
           obtain ⟨ad136, e136, hx136_0⟩ := Kd.at_int HR0_1.out x4_2 p136 q136; cases e136
           replace hx136_0 := (HB.out.cell (World.block_lt_of_cell? w _ hx136_0)).trans hx136_0
           replace p136 := eq_true p136; replace q136 := eq_true q136
           have p137 : 0 ≤ (x4_2 : Int) := od_
           have q137 : x4_2 < (l0_2.length : Int) := od_
           obtain ⟨ad137, e137, hx137_0⟩ := Kd.at_int HR0_2.out x4_2 p137 q137; cases e137
           replace hx137_0 := (HB.out.cell (World.block_lt_of_cell? w _ hx137_0)).trans hx137_0
           replace p137 := eq_true p137; replace q137 := eq_true q137; go_wp2
           repeat (go_quiet (fail); try go_wp2)
           go_roundg k2
           case measure => have := HJ1.out; have := HK2.out; omega
           case rel => exact ⟨(wrap64 (x4_2 + 1)), rf_, H', ⟨by have := HJ1.out; have := HK2.out; omega⟩, bw_ BK130, ⟨hw_ HB⟩⟩
         ·rw [if_neg c26] at H
          exact absurd H (by simp)
        ·rw [if_neg c25] at H
         exact absurd H (by simp)
       ·rw [if_neg c24] at H
        exact absurd H (by simp)
      ·rw [if_neg c23] at H; have c23b0 : decide (x4_2 < (l0_0.length : Int)) = false := decide_eq_false c23; clear c23; obtain rfl := Option.some.inj H; go_wp2
       repeat (go_quiet (fail); try go_wp2)
       go_ret
       exact ⟨re_, hw_ HB⟩

/-! ### spec_l2Dry: function 32 -/
def spec_l2Dry.f (k : Nat) (l0_0 : List Int) (l0_1 : List Int) (l0_2 : List Int) (a1_0 : Int) (a1_1 : Int) : Option (Bool) := (spec_EnvelopeOk.f k l0_0 l0_1 l0_2).bind fun t140 => (if t140 = true then ((spec_l1In.f a1_0 0 400000).bind fun t141 => (if t141 = true then ((spec_l1In.f a1_1 (-100000000) 100000000).bind fun t142 => (some t142)) else (some false))) else (some false))
theorem spec_l2Dry.mono : ∀ a0 a1 a2 a3 a4 k, LeO (spec_l2Dry.f k a0 a1 a2 a3 a4) (spec_l2Dry.f (k + 1) a0 a1 a2 a3 a4) := by
 intro a0 a1 a2 a3 a4 k
 unfold spec_l2Dry.f
 repeat' first
   | (with_reducible exact spec_EnvelopeOk.mono _ _ _ _)
   | (with_reducible exact LeO.refl _)
   | (with_reducible exact LeO.none _)
   | (with_reducible refine LeO.ite ?_ ?_)
   | (with_reducible refine LeO.bind ?_ (fun _ => ?_))
   | exact spec_EnvelopeOk.mono _ _ _ _
   | exact LeO.none _
   | refine LeO.ite ?_ ?_
   | refine LeO.bind ?_ (fun _ => ?_)
set_option maxHeartbeats 8000000 in
set_option maxRecDepth 100000 in
theorem spec_l2Dry.calls (k : Nat) (A0_0 : Option Addr) (c0_0 : Nat) (l0_0 : List Int) (A0_1 : Option Addr) (c0_1 : Nat) (l0_1 : List Int) (A0_2 : Option Addr) (c0_2 : Nat) (l0_2 : List Int) (a1_0 : Int) (a1_1 : Int) (r : Bool) (w : World) (hr0_0 : Kd.C (Kd.int .i64) w A0_0 l0_0.length l0_0) (hc0_0 : l0_0.length ≤ c0_0) (hr0_1 : Kd.C (Kd.int .i64) w A0_1 l0_1.length l0_1) (hc0_1 : l0_1.length ≤ c0_1) (hr0_2 : Kd.C (Kd.int .i64) w A0_2 l0_2.length l0_2) (hc0_2 : l0_2.length ≤ c0_2) (h : spec_l2Dry.f k l0_0 l0_1 l0_2 a1_0 a1_1 = some r) :
  Calls Try.prog 32 #[.agg #[.slice A0_0 l0_0.length c0_0, .slice A0_1 l0_1.length c0_1, .slice A0_2 l0_2.length c0_2], .agg #[.int .i64 a1_0, .int .i64 a1_1]] w fun e w' => e = .returned (.bool r) ∧ Below w.heap.size w w' := by
 have hu33 := Try.underlying33
 have hu35 := Try.underlying35
 have HR0_0 := mk_ hr0_0; have HC0_0 := mk_ hc0_0; clear hr0_0 hc0_0; have HR0_1 := mk_ hr0_1; have HC0_1 := mk_ hc0_1; clear hr0_1 hc0_1; have HR0_2 := mk_ hr0_2; have HC0_2 := mk_ hc0_2; clear hr0_2 hc0_2; have HB := mk_ (Below.refl w.heap.size w)
 have H : ((spec_EnvelopeOk.f k l0_0 l0_1 l0_2).bind fun t140 => (if t140 = true then ((spec_l1In.f a1_0 0 400000).bind fun t141 => (if t141 = true then ((spec_l1In.f a1_1 (-100000000) 100000000).bind fun t142 => (some t142)) else (some false))) else (some false))) = some r := h
 clear h; replace H := Option.bind_eq_some_iff.mp H; obtain ⟨t140, A30, H⟩ := H; (try dsimp only at H); have A3 := mk_ A30; clear A30; by_cases c4 : t140 = true
 ·subst c4; rw [if_pos rfl] at H
  replace H := Option.bind_eq_some_iff.mp H; obtain ⟨t141, A50, H⟩ := H
  (try dsimp only at H); have A5 := mk_ A50; clear A50
  by_cases c6 : t141 = true
  ·subst c6; rw [if_pos rfl] at H
   replace H := Option.bind_eq_some_iff.mp H; obtain ⟨t142, A70, H⟩ := H
   (try dsimp only at H); have A7 := mk_ A70; clear A70
   obtain rfl := Option.some.inj H
   go_enter Try.func32, Try.ntmps32
   go_wp2_with (first | ((with_reducible refine gd_ 2 rfl ?_); refine box_event ?hg (N := 2) ?hd (cs := #[.slice A0_0 l0_0.length c0_0, .slice A0_1 l0_1.length c0_1, .slice A0_2 l0_2.length c0_2]) (t := 33) ?hr ?_; (case hd => rfl); (case hg => rfl); (case hr => exact hr_); intro gb138 hg w8 hbox hb; have BK138 := mk_ (hbox); have GW138 := gb_ hg HB; replace HB := bp_ HB hb; have GE138 := GW138; clear hb hbox hg) | ((with_reducible refine gd_ 3 rfl ?_); refine box_event ?hg (N := 3) ?hd (cs := #[.int .i64 a1_0, .int .i64 a1_1]) (t := 35) ?hr ?_; (case hd => rfl); (case hg => rfl); (case hr => exact hr_); intro gb139 hg w9 hbox hb; have BK139 := mk_ (hbox); have GW139 := gb_ hg HB; replace HB := bp_ HB hb; have GE139 := GW139; have NB138_139 := nb_ hg BK138; replace BK138 := bl_ BK138 hb; have NB139_138 := ns_ NB138_139; clear hb hbox hg; have hnb10 := NB138_139.out; have hnc10 := NB139_138.out; have hcz11_0 := bc0_ BK138; have hcz11_1 := bc1_ BK138; have hcz11_2 := bc2_ BK138; have hfz11_0 := bf_ BK138 0; have hfz11_1 := bf_ BK138 1; have hfz11_2 := bf_ BK138 2) | ((with_reducible refine gc_ 53 rfl ?_); refine gl_ (some 6) rfl Try.func53 #[.agg #[.slice A0_0 l0_0.length c0_0, .slice A0_1 l0_1.length c0_1, .slice A0_2 l0_2.length c0_2]] ?_; (with_reducible refine (spec_EnvelopeOk.calls k _ _ l0_0 _ _ l0_1 _ _ l0_2 true _ ?side1 ?side2 ?side3 ?side4 ?side5 ?side6 A3.out).mono ?_); (case side1 => exact cw_ (Kd.C_below HR0_0.out HB.out)); (case side2 => exact HC0_0.out); (case side3 => exact cw_ (Kd.C_below HR0_1.out HB.out)); (case side4 => exact HC0_1.out); (case side5 => exact cw_ (Kd.C_below HR0_2.out HB.out)); (case side6 => exact HC0_2.out); rintro e w12 ⟨rfl, hb⟩; refine ⟨_, rfl, ?_⟩; replace BK138 := bl_ BK138 hb; replace BK139 := bl_ BK139 hb; replace HB := bp_ HB hb; (try clear hb); (try clear hb2); (try clear hk); (try clear hi); have hcz13_0 := bc0_ BK139; have hcz13_1 := bc1_ BK139; have hfz13_0 := bf_ BK139 0; have hfz13_1 := bf_ BK139 1) | (go_at_call 46; (with_reducible refine (spec_l1In.calls a1_0 0 400000 true _ A5.out).mono ?_); rintro e w' ⟨rfl, ⟨nd, rfl⟩⟩) | (go_at_call 46; (with_reducible refine (spec_l1In.calls a1_1 (-100000000) 100000000 t142 _ A7.out).mono ?_); rintro e w' ⟨rfl, ⟨nd, rfl⟩⟩))
   go_ret
   exact ⟨re_, hw_ HB⟩
  ·replace c6 := Bool.eq_false_iff.mpr c6; subst c6; rw [if_neg (show ¬ (false = true) by decide)] at H; obtain rfl := Option.some.inj H
   go_enter Try.func32, Try.ntmps32
   go_wp2_with (first | ((with_reducible refine gd_ 2 rfl ?_); refine box_event ?hg (N := 2) ?hd (cs := #[.slice A0_0 l0_0.length c0_0, .slice A0_1 l0_1.length c0_1, .slice A0_2 l0_2.length c0_2]) (t := 33) ?hr ?_; (case hd => rfl); (case hg => rfl); (case hr => exact hr_); intro gb138 hg w14 hbox hb; have BK138 := mk_ (hbox); have GW138 := gb_ hg HB; replace HB := bp_ HB hb; have GE138 := GW138; clear hb hbox hg) | ((with_reducible refine gd_ 3 rfl ?_); refine box_event ?hg (N := 3) ?hd (cs := #[.int .i64 a1_0, .int .i64 a1_1]) (t := 35) ?hr ?_; (case hd => rfl); (case hg => rfl); (case hr => exact hr_); intro gb139 hg w15 hbox hb; have BK139 := mk_ (hbox); have GW139 := gb_ hg HB; replace HB := bp_ HB hb; have GE139 := GW139; have NB138_139 := nb_ hg BK138; replace BK138 := bl_ BK138 hb; have NB139_138 := ns_ NB138_139; clear hb hbox hg; have hnb16 := NB138_139.out; have hnc16 := NB139_138.out; have hcz17_0 := bc0_ BK138; have hcz17_1 := bc1_ BK138; have hcz17_2 := bc2_ BK138; have hfz17_0 := bf_ BK138 0; have hfz17_1 := bf_ BK138 1; have hfz17_2 := bf_ BK138 2) | ((with_reducible refine gc_ 53 rfl ?_); refine gl_ (some 6) rfl Try.func53 #[.agg #[.slice A0_0 l0_0.length c0_0, .slice A0_1 l0_1.length c0_1, .slice A0_2 l0_2.length c0_2]] ?_; (with_reducible refine (spec_EnvelopeOk.calls k _ _ l0_0 _ _ l0_1 _ _ l0_2 true _ ?side1 ?side2 ?side3 ?side4 ?side5 ?side6 A3.out).mono ?_); (case side1 => exact cw_ (Kd.C_below HR0_0.out HB.out)); (case side2 => exact HC0_0.out); (case side3 => exact cw_ (Kd.C_below HR0_1.out HB.out)); (case side4 => exact HC0_1.out); (case side5 => exact cw_ (Kd.C_below HR0_2.out HB.out)); (case side6 => exact HC0_2.out); rintro e w18 ⟨rfl, hb⟩; refine ⟨_, rfl, ?_⟩; replace BK138 := bl_ BK138 hb; replace BK139 := bl_ BK139 hb; replace HB := bp_ HB hb; (try clear hb); (try clear hb2); (try clear hk); (try clear hi); have hcz19_0 := bc0_ BK139; have hcz19_1 := bc1_ BK139; have hfz19_0 := bf_ BK139 0; have hfz19_1 := bf_ BK139 1) | (go_at_call 46; (with_reducible refine (spec_l1In.calls a1_0 0 400000 false _ A5.out).mono ?_); rintro e w' ⟨rfl, ⟨nd, rfl⟩⟩))
   go_ret
   exact ⟨re_, hw_ HB⟩
 ·replace c4 := Bool.eq_false_iff.mpr c4; subst c4; rw [if_neg (show ¬ (false = true) by decide)] at H; obtain rfl := Option.some.inj H
  go_enter Try.func32, Try.ntmps32
  go_wp2_with (first | ((with_reducible refine gd_ 2 rfl ?_); refine box_event ?hg (N := 2) ?hd (cs := #[.slice A0_0 l0_0.length c0_0, .slice A0_1 l0_1.length c0_1, .slice A0_2 l0_2.length c0_2]) (t := 33) ?hr ?_; (case hd => rfl); (case hg => rfl); (case hr => exact hr_); intro gb138 hg w20 hbox hb; have BK138 := mk_ (hbox); have GW138 := gb_ hg HB; replace HB := bp_ HB hb; have GE138 := GW138; clear hb hbox hg) | ((with_reducible refine gd_ 3 rfl ?_); refine box_event ?hg (N := 3) ?hd (cs := #[.int .i64 a1_0, .int .i64 a1_1]) (t := 35) ?hr ?_; (case hd => rfl); (case hg => rfl); (case hr => exact hr_); intro gb139 hg w21 hbox hb; have BK139 := mk_ (hbox); have GW139 := gb_ hg HB; replace HB := bp_ HB hb; have GE139 := GW139; have NB138_139 := nb_ hg BK138; replace BK138 := bl_ BK138 hb; have NB139_138 := ns_ NB138_139; clear hb hbox hg; have hnb22 := NB138_139.out; have hnc22 := NB139_138.out; have hcz23_0 := bc0_ BK138; have hcz23_1 := bc1_ BK138; have hcz23_2 := bc2_ BK138; have hfz23_0 := bf_ BK138 0; have hfz23_1 := bf_ BK138 1; have hfz23_2 := bf_ BK138 2) | ((with_reducible refine gc_ 53 rfl ?_); refine gl_ (some 6) rfl Try.func53 #[.agg #[.slice A0_0 l0_0.length c0_0, .slice A0_1 l0_1.length c0_1, .slice A0_2 l0_2.length c0_2]] ?_; (with_reducible refine (spec_EnvelopeOk.calls k _ _ l0_0 _ _ l0_1 _ _ l0_2 false _ ?side1 ?side2 ?side3 ?side4 ?side5 ?side6 A3.out).mono ?_); (case side1 => exact cw_ (Kd.C_below HR0_0.out HB.out)); (case side2 => exact HC0_0.out); (case side3 => exact cw_ (Kd.C_below HR0_1.out HB.out)); (case side4 => exact HC0_1.out); (case side5 => exact cw_ (Kd.C_below HR0_2.out HB.out)); (case side6 => exact HC0_2.out); rintro e w24 ⟨rfl, hb⟩; refine ⟨_, rfl, ?_⟩; replace BK138 := bl_ BK138 hb; replace BK139 := bl_ BK139 hb; replace HB := bp_ HB hb; (try clear hb); (try clear hb2); (try clear hk); (try clear hi)))
  go_ret
  exact ⟨re_, hw_ HB⟩

end Go.Proofs.Yteedbciobdcmaaa.QFnExactLeaves
-- squeezed
