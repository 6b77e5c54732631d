/- Lean functions that tell what the Go functions used by one law answer, and for each a proof that the Go code comes to just these answers; no condition. Printed by this session's own program over the kit's printer. -/
import Derived.Test.YtnphbpkpjinddaaWSq
import Derived.Test.YtnphbpkpjinddaaQFnCyclesx0
import Derived.Test.YtnphbpkpjinddaaQFnCyclesx1
namespace Go.Proofs.Ytnphbpkpjinddaa.QFnCycles
open Go.RowKit Go.Proofs.YtnphbpkpjinddaaW.PrintWords Go.Proofs.YtnphbpkpjinddaaW.PrintLast Go.Proofs.YtnphbpkpjinddaaW.PrintMore
attribute [local go_sem] max2_int min2_int max_two min_two max_three min_three max_four min_four   -- for this text's walks alone
attribute [local go_sem high] go_eql go_neq go_lss go_leq go_gtr go_geq go_store   -- for this text's walks alone
set_option linter.unusedVariables false
set_option linter.unusedSimpArgs false

/-! ### impl_allIn: function 85 -/
def impl_allIn.l0 : Nat → Int → Int → List Int → Int → Int → Option (Bool)
 | 0, _, _, _, _, _ => none
 | k + 1, x1, x2, x9, m0, j8 => if j8 < m0 then (if 0 ≤ j8 then (if j8 < (x9.length : Int) then ((impl_in.f (rd x9 j8) x1 x2).bind fun h7 => (if h7 = true then (impl_allIn.l0 k x1 x2 x9 m0 (wrap64 (j8 + 1))) else (some false))) else (none)) else (none)) else (some true)
def impl_allIn.f (k : Nat) (l0 : List Int) (a1 : Int) (a2 : Int) : Option (Bool) := impl_allIn.l0 k a1 a2 l0 (l0.length : Int) 0
theorem impl_allIn.mono_l : ∀ k, (∀ y0 y1 y2 y3 y4, LeO (impl_allIn.l0 k y0 y1 y2 y3 y4) (impl_allIn.l0 (k + 1) y0 y1 y2 y3 y4))
 | 0 => fun _ _ _ _ _ r h => by simp [impl_allIn.l0] at h
 | k + 1 => by
  have b0 := impl_allIn.mono_l k
  ·intro y0 y1 y2 y3 y4
   unfold impl_allIn.l0
   repeat' first
   | (with_reducible exact b0 _ _ _ _ _)
   | (with_reducible exact LeO.refl _)
   | (with_reducible exact LeO.none _)
   | (with_reducible refine LeO.ite ?_ ?_)
   | (with_reducible refine LeO.bind ?_ (fun _ => ?_))
   | exact b0 _ _ _ _ _
   | exact LeO.none _
   | refine LeO.ite ?_ ?_
   | refine LeO.bind ?_ (fun _ => ?_)
theorem impl_allIn.mono : ∀ a0 a1 a2 k, LeO (impl_allIn.f k a0 a1 a2) (impl_allIn.f (k + 1) a0 a1 a2) := by
 intro a0 a1 a2 k
 have b0 := impl_allIn.mono_l k
 unfold impl_allIn.f
 repeat' first
   | (with_reducible exact b0 _ _ _ _ _)
   | (with_reducible exact LeO.refl _)
   | (with_reducible exact LeO.none _)
   | (with_reducible refine LeO.ite ?_ ?_)
   | (with_reducible refine LeO.bind ?_ (fun _ => ?_))
   | exact b0 _ _ _ _ _
   | exact LeO.none _
   | refine LeO.ite ?_ ?_
   | refine LeO.bind ?_ (fun _ => ?_)
set_option maxHeartbeats 8000000 in
set_option maxRecDepth 100000 in
theorem impl_allIn.calls (k : Nat) (A0 : Option Addr) (c0 : Nat) (l0 : List Int) (a1 : Int) (a2 : Int) (r : Bool) (w : World) (hr0 : Kd.C (Kd.int .i64) w A0 l0.length l0) (hc0 : l0.length ≤ c0) (h : impl_allIn.f k l0 a1 a2 = some r) :
  Calls Try.prog 85 #[.slice A0 l0.length c0, .int .i64 a1, .int .i64 a2] w fun e w' => e = .returned (.bool r) ∧ Drawn0 w w' := by
 have b6 := mk_ hr0; have j9 := mk_ hc0; clear hr0 hc0
 have H : (impl_allIn.l0 k a1 a2 l0 (l0.length : Int) 0) = some r := h
 clear h
 have H' := mk_ H
 clear H
 go_enter Try.func85, Try.ntmps85
 go_wp2
 go_loopg [11] k (fun kq v11 w' => ∃ (a5 : Int), v11 = .int .i64 a5 ∧ Aside0 (impl_allIn.l0 kq a1 a2 l0 (l0.length : Int) a5 = some r) ∧ Aside0 (kq ≤ k) ∧ Drawn0 w w')
 case atStart => exact ⟨(0), rf_, H', ⟨Nat.le_refl _⟩, by repeat (first | exact Drawn0.refl _ | apply Drawn0.step)⟩
 case round =>
  clear H'
  obtain ⟨a5, rfl, HA, l1, ⟨m1, rfl⟩⟩ := hrel
  cases gk with
  | zero => exact absurd HA.out (by simp [impl_allIn.l0])
  | succ k1 =>
   have H := HA.out; clear HA
   simp only [impl_allIn.l0] at H
   by_cases c4 : a5 < (l0.length : Int)
   ·rw [if_pos c4] at H; have a7 : decide (a5 < (l0.length : Int)) = true := decide_eq_true c4; clear c4; by_cases c5 : 0 ≤ a5
    ·rw [if_pos c5] at H; have l7 : decide (0 ≤ a5) = true := decide_eq_true c5; clear c5; by_cases c6 : a5 < (l0.length : Int)
     ·rw [if_pos c6] at H; have m5 : decide (a5 < (l0.length : Int)) = true := decide_eq_true c6; clear c6; replace H := Option.bind_eq_some_iff.mp H; obtain ⟨h7, m3, H⟩ := H; (try dsimp only at H); have A7 := mk_ m3; clear m3; by_cases c8 : h7 = true
      ·subst c8; rw [if_pos rfl] at H
       have H' := mk_ H
       clear H
       have b7 : 0 ≤ (a5 : Int) := od_
       have b8 : a5 < (l0.length : Int) := od_
       obtain ⟨l2, h8, g9⟩ := Kd.at_int b6.out a5 b7 b8; cases h8; replace b7 := eq_true b7; replace b8 := eq_true b8
       go_wp2_with (first | ((with_reducible refine gc_ 76 rfl ?_); refine gl_ (some 18) rfl Try.func76 #[.int .i64 (rd l0 a5), .int .i64 a1, .int .i64 a2] ?_; (with_reducible refine (impl_in.calls (rd l0 a5) a1 a2 true _ A7.out).mono ?_); rintro e w' ⟨rfl, ⟨nd, rfl⟩⟩; refine ⟨_, rfl, ?_⟩))
       go_roundg k1
       case measure => have := l1.out; omega
       case rel => exact ⟨(wrap64 (a5 + 1)), rf_, H', ⟨by have := l1.out; omega⟩, by repeat (first | exact Drawn0.refl _ | apply Drawn0.step)⟩
      ·replace c8 := Bool.eq_false_iff.mpr c8; subst c8; rw [if_neg (show ¬ (false = true) by decide)] at H; obtain rfl := Option.some.inj H
       have b7 : 0 ≤ (a5 : Int) := od_
       have b8 : a5 < (l0.length : Int) := od_
       obtain ⟨l2, h8, g9⟩ := Kd.at_int b6.out a5 b7 b8; cases h8; replace b7 := eq_true b7; replace b8 := eq_true b8
       go_wp2_with (first | ((with_reducible refine gc_ 76 rfl ?_); refine gl_ (some 18) rfl Try.func76 #[.int .i64 (rd l0 a5), .int .i64 a1, .int .i64 a2] ?_; (with_reducible refine (impl_in.calls (rd l0 a5) a1 a2 false _ A7.out).mono ?_); rintro e w' ⟨rfl, ⟨nd, rfl⟩⟩; refine ⟨_, rfl, ?_⟩))
       go_ret
       exact ⟨by first | rfl | (simp; done) | (simp [*]; done), by repeat (first | exact Drawn0.refl _ | apply Drawn0.step)⟩
     ·rw [if_neg c6] at H
      exact absurd H (by simp)
    ·rw [if_neg c5] at H
     exact absurd H (by simp)
   ·rw [if_neg c4] at H; have a7 : decide (a5 < (l0.length : Int)) = false := decide_eq_false c4; clear c4; obtain rfl := Option.some.inj H; go_wp2; go_ret
    exact ⟨by first | rfl | (simp; done) | (simp [*]; done), by repeat (first | exact Drawn0.refl _ | apply Drawn0.step)⟩

/-! ### impl_Crossings: function 48 -/
mutual
def impl_Crossings.j0 : Nat → List Int → Int → Bool → Option (Int × Bool)
 | 0, _, _, _ => none
 | k + 1, x0, x1, l8 => if l8 = true then (some (0, false)) else (impl_Crossings.l0 k x0 x1 0 1)
def impl_Crossings.l0 : Nat → List Int → Int → Int → Int → Option (Int × Bool)
 | 0, _, _, _, _ => none
 | k + 1, x0, x1, x6, x7 => if x7 < (x0.length : Int) then (if 0 ≤ x7 then (if (rd x0 x7) ≥ x1 then (if 0 ≤ (wrap64 (x7 - 1)) then (if (wrap64 (x7 - 1)) < (x0.length : Int) then (if (rd x0 (wrap64 (x7 - 1))) < x1 then (impl_Crossings.l0 k x0 x1 (wrap64 (x6 + 1)) (wrap64 (x7 + 1))) else (impl_Crossings.l0 k x0 x1 x6 (wrap64 (x7 + 1)))) else (none)) else (none)) else (impl_Crossings.l0 k x0 x1 x6 (wrap64 (x7 + 1)))) else (none)) else (some (x6, true))
end
def impl_Crossings.f (k : Nat) (l0 : List Int) (a1 : Int) : Option (Int × Bool) := if (l0.length : Int) > 300 then (impl_Crossings.j0 k l0 a1 true) else ((impl_allIn.f k l0 (-1000000) 1000000).bind fun b9 => (impl_Crossings.j0 k l0 a1 (!b9)))
theorem impl_Crossings.mono_l : ∀ k, (∀ y0 y1 y2, LeO (impl_Crossings.j0 k y0 y1 y2) (impl_Crossings.j0 (k + 1) y0 y1 y2)) ∧ (∀ y0 y1 y2 y3, LeO (impl_Crossings.l0 k y0 y1 y2 y3) (impl_Crossings.l0 (k + 1) y0 y1 y2 y3))
 | 0 => ⟨fun _ _ _ r h => by simp [impl_Crossings.j0] at h, fun _ _ _ _ r h => by simp [impl_Crossings.l0] at h⟩
 | k + 1 => by
  obtain ⟨b0, c1⟩ := impl_Crossings.mono_l k
  refine ⟨?_, ?_⟩
  ·intro y0 y1 y2
   unfold impl_Crossings.j0
   repeat' first
   | (with_reducible exact b0 _ _ _)
   | (with_reducible exact c1 _ _ _ _)
   | (with_reducible exact impl_allIn.mono _ _ _ _)
   | (with_reducible exact LeO.refl _)
   | (with_reducible exact LeO.none _)
   | (with_reducible refine LeO.ite ?_ ?_)
   | (with_reducible refine LeO.bind ?_ (fun _ => ?_))
   | exact b0 _ _ _
   | exact c1 _ _ _ _
   | exact impl_allIn.mono _ _ _ _
   | exact LeO.none _
   | refine LeO.ite ?_ ?_
   | refine LeO.bind ?_ (fun _ => ?_)
  ·intro y0 y1 y2 y3
   unfold impl_Crossings.l0
   repeat' first
   | (with_reducible exact b0 _ _ _)
   | (with_reducible exact c1 _ _ _ _)
   | (with_reducible exact impl_allIn.mono _ _ _ _)
   | (with_reducible exact LeO.refl _)
   | (with_reducible exact LeO.none _)
   | (with_reducible refine LeO.ite ?_ ?_)
   | (with_reducible refine LeO.bind ?_ (fun _ => ?_))
   | exact b0 _ _ _
   | exact c1 _ _ _ _
   | exact impl_allIn.mono _ _ _ _
   | exact LeO.none _
   | refine LeO.ite ?_ ?_
   | refine LeO.bind ?_ (fun _ => ?_)
theorem impl_Crossings.mono : ∀ a0 a1 k, LeO (impl_Crossings.f k a0 a1) (impl_Crossings.f (k + 1) a0 a1) := by
 intro a0 a1 k
 obtain ⟨b0, c1⟩ := impl_Crossings.mono_l k
 unfold impl_Crossings.f
 repeat' first
   | (with_reducible exact b0 _ _ _)
   | (with_reducible exact c1 _ _ _ _)
   | (with_reducible exact impl_allIn.mono _ _ _ _)
   | (with_reducible exact LeO.refl _)
   | (with_reducible exact LeO.none _)
   | (with_reducible refine LeO.ite ?_ ?_)
   | (with_reducible refine LeO.bind ?_ (fun _ => ?_))
   | exact b0 _ _ _
   | exact c1 _ _ _ _
   | exact impl_allIn.mono _ _ _ _
   | exact LeO.none _
   | refine LeO.ite ?_ ?_
   | refine LeO.bind ?_ (fun _ => ?_)
set_option maxHeartbeats 8000000 in
set_option maxRecDepth 100000 in
theorem impl_Crossings.calls (k : Nat) (A0 : Option Addr) (c0 : Nat) (l0 : List Int) (a1 : Int) (r1 : Int) (r2 : Bool) (w : World) (hr0 : Kd.C (Kd.int .i64) w A0 l0.length l0) (hc0 : l0.length ≤ c0) (h : impl_Crossings.f k l0 a1 = some (r1, r2)) :
  Calls Try.prog 48 #[.slice A0 l0.length c0, .int .i64 a1] w fun e w' => e = .returned (.tuple #[.int .i64 r1, .bool r2]) ∧ Drawn0 w w' := by
 have b6 := mk_ hr0; have j9 := mk_ hc0; clear hr0 hc0
 have H : (if (l0.length : Int) > 300 then (impl_Crossings.j0 k l0 a1 true) else ((impl_allIn.f k l0 (-1000000) 1000000).bind fun b9 => (impl_Crossings.j0 k l0 a1 (!b9)))) = some (r1, r2) := h
 clear h; have h9 := mk_ H; clear H
 go_enter Try.func48, Try.ntmps48
 go_upto_region 1 with (fail)
 go_cut [15] (fun v15 wc => ∃ (kq : Nat) (a9 : Bool), v15 = .bool a9 ∧ Aside0 (impl_Crossings.j0 kq l0 a1 a9 = some (r1, r2)) ∧ Aside0 (kq ≤ k) ∧ Drawn0 w wc)
 case first =>
  have H := h9.out; clear h9; by_cases c4 : (l0.length : Int) > 300
  ·rw [if_pos c4] at H; have a7 : decide (300 < (l0.length : Int)) = true := decide_eq_true c4; have j1 : decide (300 < l0.length) = true := decide_eq_true (by omega); clear c4
   (first | rw [a7] | (simp only [i64_w, i32_w]; rw [a7]) | skip)
   have H' := mk_ H
   clear H; go_wp2; go_meet
   case rel => exact ⟨_, (true), rf_, H', ⟨by first | omega | exact Nat.le_refl _⟩, by repeat (first | exact Drawn0.refl _ | apply Drawn0.step)⟩
  ·rw [if_neg c4] at H; have a7 : decide (300 < (l0.length : Int)) = false := decide_eq_false c4; have j1 : decide (300 < l0.length) = false := decide_eq_false (by omega); clear c4
   (first | rw [a7] | (simp only [i64_w, i32_w]; rw [a7]) | skip)
   replace H := Option.bind_eq_some_iff.mp H; obtain ⟨b9, l3, H⟩ := H
   replace H : (impl_Crossings.j0 k l0 a1 (!b9)) = some (r1, r2) := H
   have A5 := mk_ l3; clear l3
   have H' := mk_ H
   clear H
   go_wp2_with (first | (go_at_call 85; (with_reducible refine (impl_allIn.calls k _ _ l0 (-1000000) 1000000 b9 _ ?g2 ?g3 A5.out).mono ?_); (case g2 => exact cw_ b6.out); (case g3 => exact j9.out); rintro e w' ⟨rfl, ⟨nd, rfl⟩⟩))
   go_meet
   case rel => exact ⟨_, (!b9), rf_, H', ⟨by first | omega | exact Nat.le_refl _⟩, by repeat (first | exact Drawn0.refl _ | apply Drawn0.step)⟩
 case rest =>
  clear h9
  obtain ⟨kq, a9, rfl, HA, d9, ⟨mc2, rfl⟩⟩ := hcut
  cases kq with
  | zero => exact absurd HA.out (by simp [impl_Crossings.j0])
  | succ kj2 =>
   have H := HA.out; clear HA
   simp only [impl_Crossings.j0] at H
   by_cases c6 : a9 = true
   ·subst c6
    have H1 : (some (0, false)) = some (r1, r2) := by rw [if_pos rfl] at H; exact H
    clear H
    have H := H1
    clear H1
    simp only [Option.some.injEq, Prod.mk.injEq] at H
    obtain ⟨rfl, rfl⟩ := H; go_wp2
    go_ret2
    exact ⟨by first | rfl | (simp; done) | (simp [*]; done), by repeat (first | exact Drawn0.refl _ | apply Drawn0.step)⟩
   ·replace c6 := Bool.eq_false_iff.mpr c6; subst c6
    have H1 : (impl_Crossings.l0 kj2 l0 a1 0 1) = some (r1, r2) := by rw [if_neg (show ¬ (false = true) by decide)] at H; exact H
    clear H
    have H := H1
    clear H1
    have H' := mk_ H
    clear H; go_wp2
    go_loopg [6, 7] kj2 (fun kq v6 v7 w' => ∃ (a8 : Int) (a3 : Int), v6 = .int .i64 a8 ∧ v7 = .int .i64 a3 ∧ Aside0 (impl_Crossings.l0 kq l0 a1 a8 a3 = some (r1, r2)) ∧ Aside0 (kq ≤ kj2) ∧ Drawn0 w w')
    case atStart => exact ⟨(0), (1), rf_, rf_, H', ⟨Nat.le_refl _⟩, by repeat (first | exact Drawn0.refl _ | apply Drawn0.step)⟩
    case round =>
     clear H'; (try clear c6)
     obtain ⟨a8, a3, rfl, rfl, HA, g0, ⟨m2, rfl⟩⟩ := hrel
     cases gk with
     | zero => exact absurd HA.out (by simp [impl_Crossings.l0])
     | succ k2 =>
      have H := HA.out; clear HA
      simp only [impl_Crossings.l0] at H
      by_cases c7 : a3 < (l0.length : Int)
      ·rw [if_pos c7] at H; have j2 : decide (a3 < (l0.length : Int)) = true := decide_eq_true c7; clear c7; by_cases c8 : 0 ≤ a3
       ·rw [if_pos c8] at H; have l9 : decide (0 ≤ a3) = true := decide_eq_true c8; clear c8; by_cases c9 : (rd l0 a3) ≥ a1
        ·rw [if_pos c9] at H; have j3 : decide (a1 ≤ (rd l0 a3)) = true := decide_eq_true c9; clear c9
         obtain ⟨a4, b1⟩ : ∃ j_ : Int, (wrap64 (a3 - 1)) = j_ := ⟨_, rfl⟩
         replace H : (if 0 ≤ (a4) then (if (a4) < (l0.length : Int) then (if (rd l0 (a4)) < a1 then (impl_Crossings.l0 k2 l0 a1 (wrap64 (a8 + 1)) (wrap64 (a3 + 1))) else (impl_Crossings.l0 k2 l0 a1 a8 (wrap64 (a3 + 1)))) else (none)) else (none)) = some (r1, r2) := by first | (rw [b1] at H; exact H) | (simp only [b1] at H ⊢; exact H)
         have hji10w : (IntKind.i64.wrap (a3 - 1)) = a4 := (i64_w _).trans b1
         by_cases h2 : 0 ≤ (a4)
         ·rw [if_pos h2] at H; have l4 : decide (0 ≤ (a4)) = true := decide_eq_true h2; clear h2; by_cases h3 : (a4) < (l0.length : Int)
          ·rw [if_pos h3] at H; have l5 : decide ((a4) < (l0.length : Int)) = true := decide_eq_true h3; clear h3; by_cases g1 : (rd l0 (a4)) < a1
           ·rw [if_pos g1] at H; have g4 : decide ((rd l0 (a4)) < a1) = true := decide_eq_true g1; clear g1
            have H' := mk_ H
            clear H
            have b2 : 0 ≤ (a3 : Int) := od_
            have b3 : a3 < (l0.length : Int) := od_
            obtain ⟨d5, g5, d6⟩ := Kd.at_int b6.out a3 b2 b3; cases g5; replace b2 := eq_true b2; replace b3 := eq_true b3
            have c2 : 0 ≤ ((a4) : Int) := od_
            have c3 : (a4) < (l0.length : Int) := od_
            obtain ⟨g6, j4, h4⟩ := Kd.at_int b6.out (a4) c2 c3; obtain rfl : d5 = g6 := (by injection j4); replace c2 := eq_true c2; replace c3 := eq_true c3; go_wp2; go_roundg k2
            case measure => have := d9.out; have := g0.out; omega
            case rel => exact ⟨(wrap64 (a8 + 1)), (wrap64 (a3 + 1)), rf_, rf_, H', ⟨by have := d9.out; have := g0.out; omega⟩, by repeat (first | exact Drawn0.refl _ | apply Drawn0.step)⟩
           ·rw [if_neg g1] at H; have g4 : decide ((rd l0 (a4)) < a1) = false := decide_eq_false g1; clear g1
            have H' := mk_ H
            clear H
            have b2 : 0 ≤ (a3 : Int) := od_
            have b3 : a3 < (l0.length : Int) := od_
            obtain ⟨d5, g5, d6⟩ := Kd.at_int b6.out a3 b2 b3; cases g5; replace b2 := eq_true b2; replace b3 := eq_true b3
            have c2 : 0 ≤ ((a4) : Int) := od_
            have c3 : (a4) < (l0.length : Int) := od_
            obtain ⟨g6, j4, h4⟩ := Kd.at_int b6.out (a4) c2 c3; obtain rfl : d5 = g6 := (by injection j4); replace c2 := eq_true c2; replace c3 := eq_true c3; go_wp2; go_roundg k2
            case measure => have := d9.out; have := g0.out; omega
            case rel => exact ⟨(a8), (wrap64 (a3 + 1)), rf_, rf_, H', ⟨by have := d9.out; have := g0.out; omega⟩, by repeat (first | exact Drawn0.refl _ | apply Drawn0.step)⟩
          ·rw [if_neg h3] at H
           exact absurd H (by simp)
         ·rw [if_neg h2] at H
          exact absurd H (by simp)
        ·rw [if_neg c9] at H; have j3 : decide (a1 ≤ (rd l0 a3)) = false := decide_eq_false c9; clear c9
         have H' := mk_ H
         clear H
         have b2 : 0 ≤ (a3 : Int) := od_
         have b3 : a3 < (l0.length : Int) := od_
         obtain ⟨d5, g5, d6⟩ := Kd.at_int b6.out a3 b2 b3; cases g5; replace b2 := eq_true b2; replace b3 := eq_true b3; go_wp2; go_roundg k2
         case measure => have := d9.out; have := g0.out; omega
         case rel => exact ⟨(a8), (wrap64 (a3 + 1)), rf_, rf_, H', ⟨by have := d9.out; have := g0.out; omega⟩, by repeat (first | exact Drawn0.refl _ | apply Drawn0.step)⟩
       ·rw [if_neg c8] at H
        exact absurd H (by simp)
      ·rw [if_neg c7] at H; have j2 : decide (a3 < (l0.length : Int)) = false := decide_eq_false c7; clear c7
       simp only [Option.some.injEq, Prod.mk.injEq] at H
       obtain ⟨rfl, rfl⟩ := H; go_wp2
       go_ret2
       exact ⟨by first | rfl | (simp; done) | (simp [*]; done), by repeat (first | exact Drawn0.refl _ | apply Drawn0.step)⟩

/-! ### spec_l1In: function 70 -/
def spec_l1In.f (a0 : Int) (a1 : Int) (a2 : Int) : Option (Bool) := if a0 ≥ a1 then (some (decide (a0 ≤ a2))) else (some false)
set_option maxHeartbeats 8000000 in
set_option maxRecDepth 100000 in
theorem spec_l1In.calls (a0 : Int) (a1 : Int) (a2 : Int) (r : Bool) (w : World) (h : spec_l1In.f a0 a1 a2 = some r) :
  Calls Try.prog 70 #[.int .i64 a0, .int .i64 a1, .int .i64 a2] w fun e w' => e = .returned (.bool r) ∧ Drawn0 w w' := by
 have H : (if a0 ≥ a1 then (some (decide (a0 ≤ a2))) else (some false)) = some r := h
 clear h; by_cases c4 : a0 ≥ a1
 ·rw [if_pos c4] at H; have a7 : decide (a1 ≤ a0) = true := decide_eq_true c4; clear c4; obtain rfl := Option.some.inj H
  go_enter Try.func70, Try.ntmps70
  go_wp2; go_ret
  exact ⟨by first | rfl | (simp; done) | (simp [*]; done), by repeat (first | exact Drawn0.refl _ | apply Drawn0.step)⟩
 ·rw [if_neg c4] at H; have a7 : decide (a1 ≤ a0) = false := decide_eq_false c4; clear c4; obtain rfl := Option.some.inj H
  go_enter Try.func70, Try.ntmps70
  go_wp2; go_ret
  exact ⟨by first | rfl | (simp; done) | (simp [*]; done), by repeat (first | exact Drawn0.refl _ | apply Drawn0.step)⟩

/-! ### spec_l1All: function 103 -/
def spec_l1All.l0 : Nat → List Int → Int → Int → Int → Option (Bool)
 | 0, _, _, _, _ => none
 | k + 1, x0, x1, x2, x7 => if x7 < (x0.length : Int) then (if 0 ≤ x7 then ((spec_l1In.f (rd x0 x7) x1 x2).bind fun j5 => (if j5 = true then (spec_l1All.l0 k x0 x1 x2 (wrap64 (x7 + 1))) else (some false))) else (none)) else (some true)
def spec_l1All.f (k : Nat) (l0 : List Int) (a1 : Int) (a2 : Int) : Option (Bool) := spec_l1All.l0 k l0 a1 a2 0
theorem spec_l1All.mono_l : ∀ k, (∀ y0 y1 y2 y3, LeO (spec_l1All.l0 k y0 y1 y2 y3) (spec_l1All.l0 (k + 1) y0 y1 y2 y3))
 | 0 => fun _ _ _ _ r h => by simp [spec_l1All.l0] at h
 | k + 1 => by
  have b0 := spec_l1All.mono_l k
  ·intro y0 y1 y2 y3
   unfold spec_l1All.l0
   repeat' first
   | (with_reducible exact b0 _ _ _ _)
   | (with_reducible exact LeO.refl _)
   | (with_reducible exact LeO.none _)
   | (with_reducible refine LeO.ite ?_ ?_)
   | (with_reducible refine LeO.bind ?_ (fun _ => ?_))
   | exact b0 _ _ _ _
   | exact LeO.none _
   | refine LeO.ite ?_ ?_
   | refine LeO.bind ?_ (fun _ => ?_)
theorem spec_l1All.mono : ∀ a0 a1 a2 k, LeO (spec_l1All.f k a0 a1 a2) (spec_l1All.f (k + 1) a0 a1 a2) := by
 intro a0 a1 a2 k
 have b0 := spec_l1All.mono_l k
 unfold spec_l1All.f
 repeat' first
   | (with_reducible exact b0 _ _ _ _)
   | (with_reducible exact LeO.refl _)
   | (with_reducible exact LeO.none _)
   | (with_reducible refine LeO.ite ?_ ?_)
   | (with_reducible refine LeO.bind ?_ (fun _ => ?_))
   | exact b0 _ _ _ _
   | exact LeO.none _
   | refine LeO.ite ?_ ?_
   | refine LeO.bind ?_ (fun _ => ?_)
set_option maxHeartbeats 8000000 in
set_option maxRecDepth 100000 in
theorem spec_l1All.calls (k : Nat) (A0 : Option Addr) (c0 : Nat) (l0 : List Int) (a1 : Int) (a2 : Int) (r : Bool) (w : World) (hr0 : Kd.C (Kd.int .i64) w A0 l0.length l0) (hc0 : l0.length ≤ c0) (h : spec_l1All.f k l0 a1 a2 = some r) :
  Calls Try.prog 103 #[.slice A0 l0.length c0, .int .i64 a1, .int .i64 a2] w fun e w' => e = .returned (.bool r) ∧ Drawn0 w w' := by
 have b6 := mk_ hr0; have j9 := mk_ hc0; clear hr0 hc0
 have H : (spec_l1All.l0 k l0 a1 a2 0) = some r := h
 clear h
 have H' := mk_ H
 clear H
 go_enter Try.func103, Try.ntmps103
 go_wp2
 go_loopg [7] k (fun kq v7 w' => ∃ (a6 : Int), v7 = .int .i64 a6 ∧ Aside0 (spec_l1All.l0 kq l0 a1 a2 a6 = some r) ∧ Aside0 (kq ≤ k) ∧ Drawn0 w w')
 case atStart => exact ⟨(0), rf_, H', ⟨Nat.le_refl _⟩, by repeat (first | exact Drawn0.refl _ | apply Drawn0.step)⟩
 case round =>
  clear H'
  obtain ⟨a6, rfl, HA, l1, ⟨m1, rfl⟩⟩ := hrel
  cases gk with
  | zero => exact absurd HA.out (by simp [spec_l1All.l0])
  | succ k1 =>
   have H := HA.out; clear HA
   simp only [spec_l1All.l0] at H
   by_cases c4 : a6 < (l0.length : Int)
   ·rw [if_pos c4] at H; have a7 : decide (a6 < (l0.length : Int)) = true := decide_eq_true c4; clear c4; by_cases c5 : 0 ≤ a6
    ·rw [if_pos c5] at H; have l7 : decide (0 ≤ a6) = true := decide_eq_true c5; clear c5; replace H := Option.bind_eq_some_iff.mp H; obtain ⟨j5, m4, H⟩ := H; (try dsimp only at H); have A6 := mk_ m4; clear m4; by_cases c7 : j5 = true
     ·subst c7; rw [if_pos rfl] at H
      have H' := mk_ H
      clear H
      have d0 : 0 ≤ (a6 : Int) := od_
      have d1 : a6 < (l0.length : Int) := od_
      obtain ⟨l6, j6, h5⟩ := Kd.at_int b6.out a6 d0 d1; cases j6; replace d0 := eq_true d0; replace d1 := eq_true d1
      go_wp2_with (first | ((with_reducible refine gc_ 70 rfl ?_); refine gl_ (some 20) rfl Try.func70 #[.int .i64 (rd l0 a6), .int .i64 a1, .int .i64 a2] ?_; (with_reducible refine (spec_l1In.calls (rd l0 a6) a1 a2 true _ A6.out).mono ?_); rintro e w' ⟨rfl, ⟨nd, rfl⟩⟩; refine ⟨_, rfl, ?_⟩))
      go_roundg k1
      case measure => have := l1.out; omega
      case rel => exact ⟨(wrap64 (a6 + 1)), rf_, H', ⟨by have := l1.out; omega⟩, by repeat (first | exact Drawn0.refl _ | apply Drawn0.step)⟩
     ·replace c7 := Bool.eq_false_iff.mpr c7; subst c7; rw [if_neg (show ¬ (false = true) by decide)] at H; obtain rfl := Option.some.inj H
      have d0 : 0 ≤ (a6 : Int) := od_
      have d1 : a6 < (l0.length : Int) := od_
      obtain ⟨l6, j6, h5⟩ := Kd.at_int b6.out a6 d0 d1; cases j6; replace d0 := eq_true d0; replace d1 := eq_true d1
      go_wp2_with (first | ((with_reducible refine gc_ 70 rfl ?_); refine gl_ (some 20) rfl Try.func70 #[.int .i64 (rd l0 a6), .int .i64 a1, .int .i64 a2] ?_; (with_reducible refine (spec_l1In.calls (rd l0 a6) a1 a2 false _ A6.out).mono ?_); rintro e w' ⟨rfl, ⟨nd, rfl⟩⟩; refine ⟨_, rfl, ?_⟩))
      go_ret
      exact ⟨by first | rfl | (simp; done) | (simp [*]; done), by repeat (first | exact Drawn0.refl _ | apply Drawn0.step)⟩
    ·rw [if_neg c5] at H
     exact absurd H (by simp)
   ·rw [if_neg c4] at H; have a7 : decide (a6 < (l0.length : Int)) = false := decide_eq_false c4; clear c4; obtain rfl := Option.some.inj H; go_wp2; go_ret
    exact ⟨by first | rfl | (simp; done) | (simp [*]; done), by repeat (first | exact Drawn0.refl _ | apply Drawn0.step)⟩

/-! ### spec_Crossings: function 49 -/
mutual
def spec_Crossings.j0 : Nat → List Int → Int → Bool → Option (Int × Bool)
 | 0, _, _, _ => none
 | k + 1, x0, x1, l8 => if l8 = true then (some (0, false)) else (spec_Crossings.l0 k x0 x1 0 1)
def spec_Crossings.l0 : Nat → List Int → Int → Int → Int → Option (Int × Bool)
 | 0, _, _, _, _ => none
 | k + 1, x0, x1, x6, x7 => if x7 < (x0.length : Int) then (if 0 ≤ x7 then (if (rd x0 x7) ≥ x1 then (if 0 ≤ (wrap64 (x7 - 1)) then (if (wrap64 (x7 - 1)) < (x0.length : Int) then (if (rd x0 (wrap64 (x7 - 1))) < x1 then (spec_Crossings.l0 k x0 x1 (wrap64 (x6 + 1)) (wrap64 (x7 + 1))) else (spec_Crossings.l0 k x0 x1 x6 (wrap64 (x7 + 1)))) else (none)) else (none)) else (spec_Crossings.l0 k x0 x1 x6 (wrap64 (x7 + 1)))) else (none)) else (some (x6, true))
end
def spec_Crossings.f (k : Nat) (l0 : List Int) (a1 : Int) : Option (Int × Bool) := if (l0.length : Int) > 300 then (spec_Crossings.j0 k l0 a1 true) else ((spec_l1All.f k l0 (-1000000) 1000000).bind fun d2 => (spec_Crossings.j0 k l0 a1 (!d2)))
theorem spec_Crossings.mono_l : ∀ k, (∀ y0 y1 y2, LeO (spec_Crossings.j0 k y0 y1 y2) (spec_Crossings.j0 (k + 1) y0 y1 y2)) ∧ (∀ y0 y1 y2 y3, LeO (spec_Crossings.l0 k y0 y1 y2 y3) (spec_Crossings.l0 (k + 1) y0 y1 y2 y3))
 | 0 => ⟨fun _ _ _ r h => by simp [spec_Crossings.j0] at h, fun _ _ _ _ r h => by simp [spec_Crossings.l0] at h⟩
 | k + 1 => by
  obtain ⟨b0, c1⟩ := spec_Crossings.mono_l k
  refine ⟨?_, ?_⟩
  ·intro y0 y1 y2
   unfold spec_Crossings.j0
   repeat' first
   | (with_reducible exact b0 _ _ _)
   | (with_reducible exact c1 _ _ _ _)
   | (with_reducible exact spec_l1All.mono _ _ _ _)
   | (with_reducible exact LeO.refl _)
   | (with_reducible exact LeO.none _)
   | (with_reducible refine LeO.ite ?_ ?_)
   | (with_reducible refine LeO.bind ?_ (fun _ => ?_))
   | exact b0 _ _ _
   | exact c1 _ _ _ _
   | exact spec_l1All.mono _ _ _ _
   | exact LeO.none _
   | refine LeO.ite ?_ ?_
   | refine LeO.bind ?_ (fun _ => ?_)
  ·intro y0 y1 y2 y3
   unfold spec_Crossings.l0
   repeat' first
   | (with_reducible exact b0 _ _ _)
   | (with_reducible exact c1 _ _ _ _)
   | (with_reducible exact spec_l1All.mono _ _ _ _)
   | (with_reducible exact LeO.refl _)
   | (with_reducible exact LeO.none _)
   | (with_reducible refine LeO.ite ?_ ?_)
   | (with_reducible refine LeO.bind ?_ (fun _ => ?_))
   | exact b0 _ _ _
   | exact c1 _ _ _ _
   | exact spec_l1All.mono _ _ _ _
   | exact LeO.none _
   | refine LeO.ite ?_ ?_
   | refine LeO.bind ?_ (fun _ => ?_)
theorem spec_Crossings.mono : ∀ a0 a1 k, LeO (spec_Crossings.f k a0 a1) (spec_Crossings.f (k + 1) a0 a1) := by
 intro a0 a1 k
 obtain ⟨b0, c1⟩ := spec_Crossings.mono_l k
 unfold spec_Crossings.f
 repeat' first
   | (with_reducible exact b0 _ _ _)
   | (with_reducible exact c1 _ _ _ _)
   | (with_reducible exact spec_l1All.mono _ _ _ _)
   | (with_reducible exact LeO.refl _)
   | (with_reducible exact LeO.none _)
   | (with_reducible refine LeO.ite ?_ ?_)
   | (with_reducible refine LeO.bind ?_ (fun _ => ?_))
   | exact b0 _ _ _
   | exact c1 _ _ _ _
   | exact spec_l1All.mono _ _ _ _
   | exact LeO.none _
   | refine LeO.ite ?_ ?_
   | refine LeO.bind ?_ (fun _ => ?_)
set_option maxHeartbeats 8000000 in
set_option maxRecDepth 100000 in
theorem spec_Crossings.calls (k : Nat) (A0 : Option Addr) (c0 : Nat) (l0 : List Int) (a1 : Int) (r1 : Int) (r2 : Bool) (w : World) (hr0 : Kd.C (Kd.int .i64) w A0 l0.length l0) (hc0 : l0.length ≤ c0) (h : spec_Crossings.f k l0 a1 = some (r1, r2)) :
  Calls Try.prog 49 #[.slice A0 l0.length c0, .int .i64 a1] w fun e w' => e = .returned (.tuple #[.int .i64 r1, .bool r2]) ∧ Drawn0 w w' := by
 have b6 := mk_ hr0; have j9 := mk_ hc0; clear hr0 hc0
 have H : (if (l0.length : Int) > 300 then (spec_Crossings.j0 k l0 a1 true) else ((spec_l1All.f k l0 (-1000000) 1000000).bind fun d2 => (spec_Crossings.j0 k l0 a1 (!d2)))) = some (r1, r2) := h
 clear h; have h9 := mk_ H; clear H
 go_enter Try.func49, Try.ntmps49
 go_upto_region 1 with (fail)
 go_cut [15] (fun v15 wc => ∃ (kq : Nat) (a9 : Bool), v15 = .bool a9 ∧ Aside0 (spec_Crossings.j0 kq l0 a1 a9 = some (r1, r2)) ∧ Aside0 (kq ≤ k) ∧ Drawn0 w wc)
 case first =>
  have H := h9.out; clear h9; by_cases c4 : (l0.length : Int) > 300
  ·rw [if_pos c4] at H; have a7 : decide (300 < (l0.length : Int)) = true := decide_eq_true c4; have j1 : decide (300 < l0.length) = true := decide_eq_true (by omega); clear c4
   (first | rw [a7] | (simp only [i64_w, i32_w]; rw [a7]) | skip)
   have H' := mk_ H
   clear H; go_wp2; go_meet
   case rel => exact ⟨_, (true), rf_, H', ⟨by first | omega | exact Nat.le_refl _⟩, by repeat (first | exact Drawn0.refl _ | apply Drawn0.step)⟩
  ·rw [if_neg c4] at H; have a7 : decide (300 < (l0.length : Int)) = false := decide_eq_false c4; have j1 : decide (300 < l0.length) = false := decide_eq_false (by omega); clear c4
   (first | rw [a7] | (simp only [i64_w, i32_w]; rw [a7]) | skip)
   replace H := Option.bind_eq_some_iff.mp H; obtain ⟨d2, l3, H⟩ := H
   replace H : (spec_Crossings.j0 k l0 a1 (!d2)) = some (r1, r2) := H
   have A5 := mk_ l3; clear l3
   have H' := mk_ H
   clear H
   go_wp2_with (first | (go_at_call 103; (with_reducible refine (spec_l1All.calls k _ _ l0 (-1000000) 1000000 d2 _ ?g2 ?g3 A5.out).mono ?_); (case g2 => exact cw_ b6.out); (case g3 => exact j9.out); rintro e w' ⟨rfl, ⟨nd, rfl⟩⟩))
   go_meet
   case rel => exact ⟨_, (!d2), rf_, H', ⟨by first | omega | exact Nat.le_refl _⟩, by repeat (first | exact Drawn0.refl _ | apply Drawn0.step)⟩
 case rest =>
  clear h9
  obtain ⟨kq, a9, rfl, HA, d9, ⟨mc2, rfl⟩⟩ := hcut
  cases kq with
  | zero => exact absurd HA.out (by simp [spec_Crossings.j0])
  | succ kj2 =>
   have H := HA.out; clear HA
   simp only [spec_Crossings.j0] at H
   by_cases c6 : a9 = true
   ·subst c6
    have H1 : (some (0, false)) = some (r1, r2) := by rw [if_pos rfl] at H; exact H
    clear H
    have H := H1
    clear H1
    simp only [Option.some.injEq, Prod.mk.injEq] at H
    obtain ⟨rfl, rfl⟩ := H; go_wp2
    go_ret2
    exact ⟨by first | rfl | (simp; done) | (simp [*]; done), by repeat (first | exact Drawn0.refl _ | apply Drawn0.step)⟩
   ·replace c6 := Bool.eq_false_iff.mpr c6; subst c6
    have H1 : (spec_Crossings.l0 kj2 l0 a1 0 1) = some (r1, r2) := by rw [if_neg (show ¬ (false = true) by decide)] at H; exact H
    clear H
    have H := H1
    clear H1
    have H' := mk_ H
    clear H; go_wp2
    go_loopg [6, 7] kj2 (fun kq v6 v7 w' => ∃ (a8 : Int) (a3 : Int), v6 = .int .i64 a8 ∧ v7 = .int .i64 a3 ∧ Aside0 (spec_Crossings.l0 kq l0 a1 a8 a3 = some (r1, r2)) ∧ Aside0 (kq ≤ kj2) ∧ Drawn0 w w')
    case atStart => exact ⟨(0), (1), rf_, rf_, H', ⟨Nat.le_refl _⟩, by repeat (first | exact Drawn0.refl _ | apply Drawn0.step)⟩
    case round =>
     clear H'; (try clear c6)
     obtain ⟨a8, a3, rfl, rfl, HA, g0, ⟨m2, rfl⟩⟩ := hrel
     cases gk with
     | zero => exact absurd HA.out (by simp [spec_Crossings.l0])
     | succ k2 =>
      have H := HA.out; clear HA
      simp only [spec_Crossings.l0] at H
      by_cases c7 : a3 < (l0.length : Int)
      ·rw [if_pos c7] at H; have j2 : decide (a3 < (l0.length : Int)) = true := decide_eq_true c7; clear c7; by_cases c8 : 0 ≤ a3
       ·rw [if_pos c8] at H; have l9 : decide (0 ≤ a3) = true := decide_eq_true c8; clear c8; by_cases c9 : (rd l0 a3) ≥ a1
        ·rw [if_pos c9] at H; have j3 : decide (a1 ≤ (rd l0 a3)) = true := decide_eq_true c9; clear c9
         obtain ⟨a4, b1⟩ : ∃ j_ : Int, (wrap64 (a3 - 1)) = j_ := ⟨_, rfl⟩
         replace H : (if 0 ≤ (a4) then (if (a4) < (l0.length : Int) then (if (rd l0 (a4)) < a1 then (spec_Crossings.l0 k2 l0 a1 (wrap64 (a8 + 1)) (wrap64 (a3 + 1))) else (spec_Crossings.l0 k2 l0 a1 a8 (wrap64 (a3 + 1)))) else (none)) else (none)) = some (r1, r2) := by first | (rw [b1] at H; exact H) | (simp only [b1] at H ⊢; exact H)
         have hji10w : (IntKind.i64.wrap (a3 - 1)) = a4 := (i64_w _).trans b1
         by_cases h2 : 0 ≤ (a4)
         ·rw [if_pos h2] at H; have l4 : decide (0 ≤ (a4)) = true := decide_eq_true h2; clear h2; by_cases h3 : (a4) < (l0.length : Int)
          ·rw [if_pos h3] at H; have l5 : decide ((a4) < (l0.length : Int)) = true := decide_eq_true h3; clear h3; by_cases g1 : (rd l0 (a4)) < a1
           ·rw [if_pos g1] at H; have g4 : decide ((rd l0 (a4)) < a1) = true := decide_eq_true g1; clear g1
            have H' := mk_ H
            clear H
            have b4 : 0 ≤ (a3 : Int) := od_
            have b5 : a3 < (l0.length : Int) := od_
            obtain ⟨d7, g7, d8⟩ := Kd.at_int b6.out a3 b4 b5; cases g7; replace b4 := eq_true b4; replace b5 := eq_true b5
            have d3 : 0 ≤ ((a4) : Int) := od_
            have d4 : (a4) < (l0.length : Int) := od_
            obtain ⟨g8, j7, h6⟩ := Kd.at_int b6.out (a4) d3 d4; obtain rfl : d7 = g8 := (by injection j7); replace d3 := eq_true d3; replace d4 := eq_true d4; go_wp2; go_roundg k2
            case measure => have := d9.out; have := g0.out; omega
            case rel => exact ⟨(wrap64 (a8 + 1)), (wrap64 (a3 + 1)), rf_, rf_, H', ⟨by have := d9.out; have := g0.out; omega⟩, by repeat (first | exact Drawn0.refl _ | apply Drawn0.step)⟩
           ·rw [if_neg g1] at H; have g4 : decide ((rd l0 (a4)) < a1) = false := decide_eq_false g1; clear g1
            have H' := mk_ H
            clear H
            have b4 : 0 ≤ (a3 : Int) := od_
            have b5 : a3 < (l0.length : Int) := od_
            obtain ⟨d7, g7, d8⟩ := Kd.at_int b6.out a3 b4 b5; cases g7; replace b4 := eq_true b4; replace b5 := eq_true b5
            have d3 : 0 ≤ ((a4) : Int) := od_
            have d4 : (a4) < (l0.length : Int) := od_
            obtain ⟨g8, j7, h6⟩ := Kd.at_int b6.out (a4) d3 d4; obtain rfl : d7 = g8 := (by injection j7); replace d3 := eq_true d3; replace d4 := eq_true d4; go_wp2; go_roundg k2
            case measure => have := d9.out; have := g0.out; omega
            case rel => exact ⟨(a8), (wrap64 (a3 + 1)), rf_, rf_, H', ⟨by have := d9.out; have := g0.out; omega⟩, by repeat (first | exact Drawn0.refl _ | apply Drawn0.step)⟩
          ·rw [if_neg h3] at H
           exact absurd H (by simp)
         ·rw [if_neg h2] at H
          exact absurd H (by simp)
        ·rw [if_neg c9] at H; have j3 : decide (a1 ≤ (rd l0 a3)) = false := decide_eq_false c9; clear c9
         have H' := mk_ H
         clear H
         have b4 : 0 ≤ (a3 : Int) := od_
         have b5 : a3 < (l0.length : Int) := od_
         obtain ⟨d7, g7, d8⟩ := Kd.at_int b6.out a3 b4 b5; cases g7; replace b4 := eq_true b4; replace b5 := eq_true b5; go_wp2; go_roundg k2
         case measure => have := d9.out; have := g0.out; omega
         case rel => exact ⟨(a8), (wrap64 (a3 + 1)), rf_, rf_, H', ⟨by have := d9.out; have := g0.out; omega⟩, by repeat (first | exact Drawn0.refl _ | apply Drawn0.step)⟩
       ·rw [if_neg c8] at H
        exact absurd H (by simp)
      ·rw [if_neg c7] at H; have j2 : decide (a3 < (l0.length : Int)) = false := decide_eq_false c7; clear c7
       simp only [Option.some.injEq, Prod.mk.injEq] at H
       obtain ⟨rfl, rfl⟩ := H; go_wp2
       go_ret2
       exact ⟨by first | rfl | (simp; done) | (simp [*]; done), by repeat (first | exact Drawn0.refl _ | apply Drawn0.step)⟩

end Go.Proofs.Ytnphbpkpjinddaa.QFnCycles
-- squeezed
