/- Lean functions that tell what the Go functions used by one law answer, and for each a proof that the Go code comes to just these answers; no condition. Printed by this session's own program over the kit's printer. -/
import Derived.Test.YtnphbpkpjinddaaWSq
import Derived.Test.YtnphbpkpjinddaaQFnExactAtGridx0
namespace Go.Proofs.Ytnphbpkpjinddaa.QFnExactAtGrid
open Go.RowKit Go.Proofs.YtnphbpkpjinddaaW.PrintWords Go.Proofs.YtnphbpkpjinddaaW.PrintLast Go.Proofs.YtnphbpkpjinddaaW.PrintMore
attribute [local go_sem] max2_int min2_int max_two min_two max_three min_three max_four min_four   -- for this text's walks alone
attribute [local go_sem high] go_eql go_neq go_lss go_leq go_gtr go_geq go_store   -- for this text's walks alone
set_option linter.unusedVariables false
set_option linter.unusedSimpArgs false

/-! ### laws_eqIntS: function 68 -/
def laws_eqIntS.l0 : Nat → List Int → List Int → Int → Option (Bool)
 | 0, _, _, _ => none
 | k + 1, x0, x1, x5 => if x5 < (x0.length : Int) then (if 0 ≤ x5 then (if x5 < (x1.length : Int) then (if (rd x0 x5) = (rd x1 x5) then (laws_eqIntS.l0 k x0 x1 (wrap64 (x5 + 1))) else (some false)) else (none)) else (none)) else (some true)
def laws_eqIntS.f (k : Nat) (l0 : List Int) (l1 : List Int) : Option (Bool) := if (l0.length : Int) = (l1.length : Int) then (laws_eqIntS.l0 k l0 l1 0) else (some false)
theorem laws_eqIntS.mono_l : ∀ k, (∀ y0 y1 y2, LeO (laws_eqIntS.l0 k y0 y1 y2) (laws_eqIntS.l0 (k + 1) y0 y1 y2))
 | 0 => fun _ _ _ r h => by simp [laws_eqIntS.l0] at h
 | k + 1 => by
  have g6 := laws_eqIntS.mono_l k
  ·intro y0 y1 y2
   unfold laws_eqIntS.l0
   repeat' first
   | (with_reducible exact g6 _ _ _)
   | (with_reducible exact LeO.refl _)
   | (with_reducible exact LeO.none _)
   | (with_reducible refine LeO.ite ?_ ?_)
   | (with_reducible refine LeO.bind ?_ (fun _ => ?_))
   | exact g6 _ _ _
   | exact LeO.none _
   | refine LeO.ite ?_ ?_
   | refine LeO.bind ?_ (fun _ => ?_)
theorem laws_eqIntS.mono : ∀ a0 a1 k, LeO (laws_eqIntS.f k a0 a1) (laws_eqIntS.f (k + 1) a0 a1) := by
 intro a0 a1 k
 have g6 := laws_eqIntS.mono_l k
 unfold laws_eqIntS.f
 repeat' first
   | (with_reducible exact g6 _ _ _)
   | (with_reducible exact LeO.refl _)
   | (with_reducible exact LeO.none _)
   | (with_reducible refine LeO.ite ?_ ?_)
   | (with_reducible refine LeO.bind ?_ (fun _ => ?_))
   | exact g6 _ _ _
   | exact LeO.none _
   | refine LeO.ite ?_ ?_
   | refine LeO.bind ?_ (fun _ => ?_)
set_option maxHeartbeats 8000000 in
set_option maxRecDepth 100000 in
theorem laws_eqIntS.calls (k : Nat) (A0 : Option Addr) (c0 : Nat) (l0 : List Int) (A1 : Option Addr) (c1 : Nat) (l1 : List Int) (r : Bool) (w : World) (hr0 : Kd.C (Kd.int .i64) w A0 l0.length l0) (hc0 : l0.length ≤ c0) (hr1 : Kd.C (Kd.int .i64) w A1 l1.length l1) (hc1 : l1.length ≤ c1) (h : laws_eqIntS.f k l0 l1 = some r) :
  Calls Try.prog 68 #[.slice A0 l0.length c0, .slice A1 l1.length c1] w fun e w' => e = .returned (.bool r) ∧ Drawn0 w w' := by
 have m4 := mk_ hr0; have y7 := mk_ hc0; clear hr0 hc0; have m5 := mk_ hr1; have y8 := mk_ hc1; clear hr1 hc1
 have H : (if (l0.length : Int) = (l1.length : Int) then (laws_eqIntS.l0 k l0 l1 0) else (some false)) = some r := h
 clear h; by_cases c3 : (l0.length : Int) = (l1.length : Int)
 ·rw [if_pos c3] at H; have j8 : ((l0.length : Int) == (l1.length : Int)) = true := beq_iff_eq.mpr c3; have j9 : ((l0.length : Int) != (l1.length : Int)) = false := bne_eq_false_iff_eq.mpr c3
  have l2 : (l0.length == l1.length) = true := by first | simpa using c3 | (simp at c3 ⊢; omega)
  clear c3
  have H' := mk_ H
  clear H
  go_enter Try.func68, Try.ntmps68
  go_wp2
  repeat (go_quiet (fail); try go_wp2)
  go_loopg [5] k (fun kq v5 w' => ∃ (a6 : Int), v5 = .int .i64 a6 ∧ Aside0 (laws_eqIntS.l0 kq l0 l1 a6 = some r) ∧ Aside0 (kq ≤ k) ∧ Drawn0 w w')
  case atStart => exact ⟨(0), rf_, H', ⟨Nat.le_refl _⟩, by repeat (first | exact Drawn0.refl _ | apply Drawn0.step)⟩
  case round =>
   clear H'; (try clear c1); (try clear c3)
   obtain ⟨a6, rfl, HA, m6, ⟨m1, rfl⟩⟩ := hrel
   cases gk with
   | zero => exact absurd HA.out (by simp [laws_eqIntS.l0])
   | succ k1 =>
    have H := HA.out; clear HA
    simp only [laws_eqIntS.l0] at H
    by_cases c4 : a6 < (l0.length : Int)
    ·rw [if_pos c4] at H; have l3 : decide (a6 < (l0.length : Int)) = true := decide_eq_true c4; clear c4; by_cases c5 : 0 ≤ a6
     ·rw [if_pos c5] at H; have t0 : decide (0 ≤ a6) = true := decide_eq_true c5; clear c5; by_cases c6 : a6 < (l1.length : Int)
      ·rw [if_pos c6] at H; have t1 : decide (a6 < (l1.length : Int)) = true := decide_eq_true c6; clear c6; by_cases c7 : (rd l0 a6) = (rd l1 a6)
       ·rw [if_pos c7] at H; have t2 : ((rd l0 a6) == (rd l1 a6)) = true := beq_iff_eq.mpr c7; have t3 : ((rd l0 a6) != (rd l1 a6)) = false := bne_eq_false_iff_eq.mpr c7; clear c7
        have H' := mk_ H
        clear H
        have d3 : 0 ≤ (a6 : Int) := od_
        have d4 : a6 < (l0.length : Int) := od_
        obtain ⟨m7, l4, j0⟩ := Kd.at_int m4.out a6 d3 d4; cases l4; replace d3 := eq_true d3; replace d4 := eq_true d4
        have d5 : 0 ≤ (a6 : Int) := od_
        have d6 : a6 < (l1.length : Int) := od_
        obtain ⟨m8, l5, j1⟩ := Kd.at_int m5.out a6 d5 d6; cases l5; replace d5 := eq_true d5; replace d6 := eq_true d6; go_wp2
        repeat (go_quiet (fail); try go_wp2)
        go_roundg k1
        case measure => have := m6.out; omega
        case rel => exact ⟨(wrap64 (a6 + 1)), rf_, H', ⟨by have := m6.out; omega⟩, by repeat (first | exact Drawn0.refl _ | apply Drawn0.step)⟩
       ·rw [if_neg c7] at H; have t2 : ((rd l0 a6) == (rd l1 a6)) = false := beq_eq_false_iff_ne.mpr c7; have t3 : ((rd l0 a6) != (rd l1 a6)) = true := bne_iff_ne.mpr c7; obtain rfl := Option.some.inj H
        have d3 : 0 ≤ (a6 : Int) := od_
        have d4 : a6 < (l0.length : Int) := od_
        obtain ⟨m7, l4, j0⟩ := Kd.at_int m4.out a6 d3 d4; cases l4; replace d3 := eq_true d3; replace d4 := eq_true d4
        have d5 : 0 ≤ (a6 : Int) := od_
        have d6 : a6 < (l1.length : Int) := od_
        obtain ⟨m8, l5, j1⟩ := Kd.at_int m5.out a6 d5 d6; cases l5; replace d5 := eq_true d5; replace d6 := eq_true d6; go_wp2
        repeat (go_quiet (fail); try go_wp2)
        go_ret
        exact ⟨by first | rfl | (simp; done) | (simp [*]; done), by repeat (first | exact Drawn0.refl _ | apply Drawn0.step)⟩
      ·rw [if_neg c6] at H
       exact absurd H (by simp)
     ·rw [if_neg c5] at H
      exact absurd H (by simp)
    ·rw [if_neg c4] at H; have l3 : decide (a6 < (l0.length : Int)) = false := decide_eq_false c4; clear c4; obtain rfl := Option.some.inj H; go_wp2
     repeat (go_quiet (fail); try go_wp2)
     go_ret
     exact ⟨by first | rfl | (simp; done) | (simp [*]; done), by repeat (first | exact Drawn0.refl _ | apply Drawn0.step)⟩
 ·rw [if_neg c3] at H; have j8 : ((l0.length : Int) == (l1.length : Int)) = false := beq_eq_false_iff_ne.mpr c3; have j9 : ((l0.length : Int) != (l1.length : Int)) = true := bne_iff_ne.mpr c3
  have l2 : (l0.length == l1.length) = false := by first | simpa using c3 | (simp at c3 ⊢; omega)
  obtain rfl := Option.some.inj H
  go_enter Try.func68, Try.ntmps68
  go_wp2
  repeat (go_quiet (fail); try go_wp2)
  go_ret
  exact ⟨by first | rfl | (simp; done) | (simp [*]; done), by repeat (first | exact Drawn0.refl _ | apply Drawn0.step)⟩

/-! ### laws_eqIntSS: function 99 -/
def laws_eqIntSS.l0 : Nat → List (List Int) → List (List Int) → Int → Option (Bool)
 | 0, _, _, _ => none
 | k + 1, x0, x1, x5 => if x5 < (x0.length : Int) then (if 0 ≤ x5 then (if x5 < (x1.length : Int) then ((laws_eqIntS.f k (rd_L1 x0 x5) (rd_L1 x1 x5)).bind fun l6 => (if l6 = true then (laws_eqIntSS.l0 k x0 x1 (wrap64 (x5 + 1))) else (some false))) else (none)) else (none)) else (some true)
def laws_eqIntSS.f (k : Nat) (l0 : List (List Int)) (l1 : List (List Int)) : Option (Bool) := if (l0.length : Int) = (l1.length : Int) then (laws_eqIntSS.l0 k l0 l1 0) else (some false)
theorem laws_eqIntSS.mono_l : ∀ k, (∀ y0 y1 y2, LeO (laws_eqIntSS.l0 k y0 y1 y2) (laws_eqIntSS.l0 (k + 1) y0 y1 y2))
 | 0 => fun _ _ _ r h => by simp [laws_eqIntSS.l0] at h
 | k + 1 => by
  have g6 := laws_eqIntSS.mono_l k
  ·intro y0 y1 y2
   unfold laws_eqIntSS.l0
   repeat' first
   | (with_reducible exact g6 _ _ _)
   | (with_reducible exact laws_eqIntS.mono _ _ _)
   | (with_reducible exact LeO.refl _)
   | (with_reducible exact LeO.none _)
   | (with_reducible refine LeO.ite ?_ ?_)
   | (with_reducible refine LeO.bind ?_ (fun _ => ?_))
   | exact g6 _ _ _
   | exact laws_eqIntS.mono _ _ _
   | exact LeO.none _
   | refine LeO.ite ?_ ?_
   | refine LeO.bind ?_ (fun _ => ?_)
theorem laws_eqIntSS.mono : ∀ a0 a1 k, LeO (laws_eqIntSS.f k a0 a1) (laws_eqIntSS.f (k + 1) a0 a1) := by
 intro a0 a1 k
 have g6 := laws_eqIntSS.mono_l k
 unfold laws_eqIntSS.f
 repeat' first
   | (with_reducible exact g6 _ _ _)
   | (with_reducible exact laws_eqIntS.mono _ _ _)
   | (with_reducible exact LeO.refl _)
   | (with_reducible exact LeO.none _)
   | (with_reducible refine LeO.ite ?_ ?_)
   | (with_reducible refine LeO.bind ?_ (fun _ => ?_))
   | exact g6 _ _ _
   | exact laws_eqIntS.mono _ _ _
   | exact LeO.none _
   | refine LeO.ite ?_ ?_
   | refine LeO.bind ?_ (fun _ => ?_)
set_option maxHeartbeats 8000000 in
set_option maxRecDepth 100000 in
theorem laws_eqIntSS.calls (k : Nat) (A0 : Option Addr) (c0 : Nat) (l0 : List (List Int)) (A1 : Option Addr) (c1 : Nat) (l1 : List (List Int)) (r : Bool) (w : World) (hr0 : Kd.C (Kd.slice 3 (Kd.int .i64)) w A0 l0.length l0) (hc0 : l0.length ≤ c0) (hr1 : Kd.C (Kd.slice 3 (Kd.int .i64)) w A1 l1.length l1) (hc1 : l1.length ≤ c1) (h : laws_eqIntSS.f k l0 l1 = some r) :
  Calls Try.prog 99 #[.slice A0 l0.length c0, .slice A1 l1.length c1] w fun e w' => e = .returned (.bool r) ∧ Drawn0 w w' := by
 have m4 := mk_ hr0; have y7 := mk_ hc0; clear hr0 hc0; have m5 := mk_ hr1; have y8 := mk_ hc1; clear hr1 hc1
 have H : (if (l0.length : Int) = (l1.length : Int) then (laws_eqIntSS.l0 k l0 l1 0) else (some false)) = some r := h
 clear h; by_cases c3 : (l0.length : Int) = (l1.length : Int)
 ·rw [if_pos c3] at H; have j8 : ((l0.length : Int) == (l1.length : Int)) = true := beq_iff_eq.mpr c3; have j9 : ((l0.length : Int) != (l1.length : Int)) = false := bne_eq_false_iff_eq.mpr c3
  have l2 : (l0.length == l1.length) = true := by first | simpa using c3 | (simp at c3 ⊢; omega)
  clear c3
  have H' := mk_ H
  clear H
  go_enter Try.func99, Try.ntmps99
  go_wp2
  repeat (go_quiet (fail); try go_wp2)
  go_loopg [5] k (fun kq v5 w' => ∃ (a6 : Int), v5 = .int .i64 a6 ∧ Aside0 (laws_eqIntSS.l0 kq l0 l1 a6 = some r) ∧ Aside0 (kq ≤ k) ∧ Drawn0 w w')
  case atStart => exact ⟨(0), rf_, H', ⟨Nat.le_refl _⟩, by repeat (first | exact Drawn0.refl _ | apply Drawn0.step)⟩
  case round =>
   clear H'; (try clear c1); (try clear c3)
   obtain ⟨a6, rfl, HA, m6, ⟨m1, rfl⟩⟩ := hrel
   cases gk with
   | zero => exact absurd HA.out (by simp [laws_eqIntSS.l0])
   | succ k1 =>
    have H := HA.out; clear HA
    simp only [laws_eqIntSS.l0] at H
    by_cases c4 : a6 < (l0.length : Int)
    ·rw [if_pos c4] at H; have l3 : decide (a6 < (l0.length : Int)) = true := decide_eq_true c4; clear c4; by_cases c5 : 0 ≤ a6
     ·rw [if_pos c5] at H; have t0 : decide (0 ≤ a6) = true := decide_eq_true c5; clear c5; by_cases c6 : a6 < (l1.length : Int)
      ·rw [if_pos c6] at H; have t1 : decide (a6 < (l1.length : Int)) = true := decide_eq_true c6; clear c6; replace H := Option.bind_eq_some_iff.mp H; obtain ⟨l6, m9, H⟩ := H; (try dsimp only at H); have A7 := mk_ m9; clear m9; by_cases c8 : l6 = true
       ·subst c8; rw [if_pos rfl] at H
        have H' := mk_ H
        clear H
        have d7 : 0 ≤ (a6 : Int) := od_
        have d8 : a6 < (l0.length : Int) := od_
        obtain ⟨n0, l7, l8, l9, j2, b9, c2⟩ := at_L1 m4.out a6 d7 d8; cases l9; have b5 := mk_ c2; have b6 := mk_ b9; clear c2 b9; replace d7 := eq_true d7; replace d8 := eq_true d8
        have d9 : 0 ≤ (a6 : Int) := od_
        have g1 : a6 < (l1.length : Int) := od_
        obtain ⟨n1, m0, m2, m3, j3, c9, d0⟩ := at_L1 m5.out a6 d9 g1; cases m3; have b7 := mk_ d0; have b8 := mk_ c9; clear d0 c9; replace d9 := eq_true d9; replace g1 := eq_true g1
        go_wp2_with (first | (go_at_call 68; (with_reducible refine (laws_eqIntS.calls k1 _ _ (rd_L1 l0 a6) _ _ (rd_L1 l1 a6) true _ ?a8 ?a9 ?b0 ?b1 A7.out).mono ?_); (case a8 => exact cw_ b5.out); (case a9 => exact b6.out); (case b0 => exact cw_ b7.out); (case b1 => exact b8.out); rintro e w' ⟨rfl, ⟨nd, rfl⟩⟩; (try first | exact ⟨rfl, _, World.drewN_drewN _ _ _⟩ | exact ⟨rfl, _, Eq.trans (World.drewN_drewN _ _ _) (congrArg (World.drewN _) (Nat.add_assoc _ _ _))⟩)))
        repeat (go_quiet (first | (go_at_call 68; (with_reducible refine (laws_eqIntS.calls k1 _ _ (rd_L1 l0 a6) _ _ (rd_L1 l1 a6) true _ ?a8 ?a9 ?b0 ?b1 A7.out).mono ?_); (case a8 => exact cw_ b5.out); (case a9 => exact b6.out); (case b0 => exact cw_ b7.out); (case b1 => exact b8.out); rintro e w' ⟨rfl, ⟨nd, rfl⟩⟩; (try first | exact ⟨rfl, _, World.drewN_drewN _ _ _⟩ | exact ⟨rfl, _, Eq.trans (World.drewN_drewN _ _ _) (congrArg (World.drewN _) (Nat.add_assoc _ _ _))⟩))); try go_wp2_with (first | (go_at_call 68; (with_reducible refine (laws_eqIntS.calls k1 _ _ (rd_L1 l0 a6) _ _ (rd_L1 l1 a6) true _ ?a8 ?a9 ?b0 ?b1 A7.out).mono ?_); (case a8 => exact cw_ b5.out); (case a9 => exact b6.out); (case b0 => exact cw_ b7.out); (case b1 => exact b8.out); rintro e w' ⟨rfl, ⟨nd, rfl⟩⟩; (try first | exact ⟨rfl, _, World.drewN_drewN _ _ _⟩ | exact ⟨rfl, _, Eq.trans (World.drewN_drewN _ _ _) (congrArg (World.drewN _) (Nat.add_assoc _ _ _))⟩))))
        go_roundg k1
        case measure => have := m6.out; omega
        case rel => exact ⟨(wrap64 (a6 + 1)), rf_, H', ⟨by have := m6.out; omega⟩, by repeat (first | exact Drawn0.refl _ | apply Drawn0.step)⟩
       ·replace c8 := Bool.eq_false_iff.mpr c8; subst c8; rw [if_neg (show ¬ (false = true) by decide)] at H; obtain rfl := Option.some.inj H
        have d7 : 0 ≤ (a6 : Int) := od_
        have d8 : a6 < (l0.length : Int) := od_
        obtain ⟨n0, l7, l8, l9, j2, b9, c2⟩ := at_L1 m4.out a6 d7 d8; cases l9; have b5 := mk_ c2; have b6 := mk_ b9; clear c2 b9; replace d7 := eq_true d7; replace d8 := eq_true d8
        have d9 : 0 ≤ (a6 : Int) := od_
        have g1 : a6 < (l1.length : Int) := od_
        obtain ⟨n1, m0, m2, m3, j3, c9, d0⟩ := at_L1 m5.out a6 d9 g1; cases m3; have b7 := mk_ d0; have b8 := mk_ c9; clear d0 c9; replace d9 := eq_true d9; replace g1 := eq_true g1
        go_wp2_with (first | (go_at_call 68; (with_reducible refine (laws_eqIntS.calls k1 _ _ (rd_L1 l0 a6) _ _ (rd_L1 l1 a6) false _ ?a8 ?a9 ?b0 ?b1 A7.out).mono ?_); (case a8 => exact cw_ b5.out); (case a9 => exact b6.out); (case b0 => exact cw_ b7.out); (case b1 => exact b8.out); rintro e w' ⟨rfl, ⟨nd, rfl⟩⟩; (try first | exact ⟨rfl, _, World.drewN_drewN _ _ _⟩ | exact ⟨rfl, _, Eq.trans (World.drewN_drewN _ _ _) (congrArg (World.drewN _) (Nat.add_assoc _ _ _))⟩)))
        repeat (go_quiet (first | (go_at_call 68; (with_reducible refine (laws_eqIntS.calls k1 _ _ (rd_L1 l0 a6) _ _ (rd_L1 l1 a6) false _ ?a8 ?a9 ?b0 ?b1 A7.out).mono ?_); (case a8 => exact cw_ b5.out); (case a9 => exact b6.out); (case b0 => exact cw_ b7.out); (case b1 => exact b8.out); rintro e w' ⟨rfl, ⟨nd, rfl⟩⟩; (try first | exact ⟨rfl, _, World.drewN_drewN _ _ _⟩ | exact ⟨rfl, _, Eq.trans (World.drewN_drewN _ _ _) (congrArg (World.drewN _) (Nat.add_assoc _ _ _))⟩))); try go_wp2_with (first | (go_at_call 68; (with_reducible refine (laws_eqIntS.calls k1 _ _ (rd_L1 l0 a6) _ _ (rd_L1 l1 a6) false _ ?a8 ?a9 ?b0 ?b1 A7.out).mono ?_); (case a8 => exact cw_ b5.out); (case a9 => exact b6.out); (case b0 => exact cw_ b7.out); (case b1 => exact b8.out); rintro e w' ⟨rfl, ⟨nd, rfl⟩⟩; (try first | exact ⟨rfl, _, World.drewN_drewN _ _ _⟩ | exact ⟨rfl, _, Eq.trans (World.drewN_drewN _ _ _) (congrArg (World.drewN _) (Nat.add_assoc _ _ _))⟩))))
        go_ret
        exact ⟨by first | rfl | (simp; done) | (simp [*]; done), by repeat (first | exact Drawn0.refl _ | apply Drawn0.step)⟩
      ·rw [if_neg c6] at H
       exact absurd H (by simp)
     ·rw [if_neg c5] at H
      exact absurd H (by simp)
    ·rw [if_neg c4] at H; have l3 : decide (a6 < (l0.length : Int)) = false := decide_eq_false c4; clear c4; obtain rfl := Option.some.inj H; go_wp2
     repeat (go_quiet (fail); try go_wp2)
     go_ret
     exact ⟨by first | rfl | (simp; done) | (simp [*]; done), by repeat (first | exact Drawn0.refl _ | apply Drawn0.step)⟩
 ·rw [if_neg c3] at H; have j8 : ((l0.length : Int) == (l1.length : Int)) = false := beq_eq_false_iff_ne.mpr c3; have j9 : ((l0.length : Int) != (l1.length : Int)) = true := bne_iff_ne.mpr c3
  have l2 : (l0.length == l1.length) = false := by first | simpa using c3 | (simp at c3 ⊢; omega)
  obtain rfl := Option.some.inj H
  go_enter Try.func99, Try.ntmps99
  go_wp2
  repeat (go_quiet (fail); try go_wp2)
  go_ret
  exact ⟨by first | rfl | (simp; done) | (simp [*]; done), by repeat (first | exact Drawn0.refl _ | apply Drawn0.step)⟩

/-! ### laws_eqGrid: function 46 -/
def laws_eqGrid.f (k : Nat) (l0_0 : List Int) (l0_1 : List Int) (l0_2 : List (List Int)) (l1_0 : List Int) (l1_1 : List Int) (l1_2 : List (List Int)) : Option (Bool) := (laws_eqIntS.f k l0_0 l1_0).bind fun g7 => (if g7 = true then ((laws_eqIntS.f k l0_1 l1_1).bind fun g8 => (if g8 = true then ((laws_eqIntSS.f k l0_2 l1_2).bind fun g9 => (if g9 = true then (some true) else (some false))) else (some false))) else (some false))
theorem laws_eqGrid.mono : ∀ a0 a1 a2 a3 a4 a5 k, LeO (laws_eqGrid.f k a0 a1 a2 a3 a4 a5) (laws_eqGrid.f (k + 1) a0 a1 a2 a3 a4 a5) := by
 intro a0 a1 a2 a3 a4 a5 k
 unfold laws_eqGrid.f
 repeat' first
   | (with_reducible exact laws_eqIntS.mono _ _ _)
   | (with_reducible exact laws_eqIntSS.mono _ _ _)
   | (with_reducible exact LeO.refl _)
   | (with_reducible exact LeO.none _)
   | (with_reducible refine LeO.ite ?_ ?_)
   | (with_reducible refine LeO.bind ?_ (fun _ => ?_))
   | exact laws_eqIntS.mono _ _ _
   | exact laws_eqIntSS.mono _ _ _
   | exact LeO.none _
   | refine LeO.ite ?_ ?_
   | refine LeO.bind ?_ (fun _ => ?_)
set_option maxHeartbeats 8000000 in
set_option maxRecDepth 100000 in
theorem laws_eqGrid.calls (k : Nat) (A0_0 : Option Addr) (c0_0 : Nat) (l0_0 : List Int) (A0_1 : Option Addr) (c0_1 : Nat) (l0_1 : List Int) (A0_2 : Option Addr) (c0_2 : Nat) (l0_2 : List (List Int)) (A1_0 : Option Addr) (c1_0 : Nat) (l1_0 : List Int) (A1_1 : Option Addr) (c1_1 : Nat) (l1_1 : List Int) (A1_2 : Option Addr) (c1_2 : Nat) (l1_2 : List (List Int)) (r : Bool) (w : World) (hr0_0 : Kd.C (Kd.int .i64) w A0_0 l0_0.length l0_0) (hc0_0 : l0_0.length ≤ c0_0) (hr0_1 : Kd.C (Kd.int .i64) w A0_1 l0_1.length l0_1) (hc0_1 : l0_1.length ≤ c0_1) (hr0_2 : Kd.C (Kd.slice 3 (Kd.int .i64)) w A0_2 l0_2.length l0_2) (hc0_2 : l0_2.length ≤ c0_2) (hr1_0 : Kd.C (Kd.int .i64) w A1_0 l1_0.length l1_0) (hc1_0 : l1_0.length ≤ c1_0) (hr1_1 : Kd.C (Kd.int .i64) w A1_1 l1_1.length l1_1) (hc1_1 : l1_1.length ≤ c1_1) (hr1_2 : Kd.C (Kd.slice 3 (Kd.int .i64)) w A1_2 l1_2.length l1_2) (hc1_2 : l1_2.length ≤ c1_2) (h : laws_eqGrid.f k l0_0 l0_1 l0_2 l1_0 l1_1 l1_2 = some r) :
  Calls Try.prog 46 #[.agg #[.slice A0_0 l0_0.length c0_0, .slice A0_1 l0_1.length c0_1, .slice A0_2 l0_2.length c0_2], .agg #[.slice A1_0 l1_0.length c1_0, .slice A1_1 l1_1.length c1_1, .slice A1_2 l1_2.length c1_2]] w fun e w' => e = .returned (.bool r) ∧ Below w.heap.size w w' := by
 have y9 := Try.underlying75
 have g2 := mk_ hr0_0; have g3 := mk_ hc0_0; clear hr0_0 hc0_0; have h2 := mk_ hr0_1; have h3 := mk_ hc0_1; clear hr0_1 hc0_1; have j4 := mk_ hr0_2; have j5 := mk_ hc0_2; clear hr0_2 hc0_2; have g4 := mk_ hr1_0; have g5 := mk_ hc1_0; clear hr1_0 hc1_0; have h4 := mk_ hr1_1; have h5 := mk_ hc1_1; clear hr1_1 hc1_1; have j6 := mk_ hr1_2; have j7 := mk_ hc1_2; clear hr1_2 hc1_2; have HB := mk_ (Below.refl w.heap.size w)
 have H : ((laws_eqIntS.f k l0_0 l1_0).bind fun g7 => (if g7 = true then ((laws_eqIntS.f k l0_1 l1_1).bind fun g8 => (if g8 = true then ((laws_eqIntSS.f k l0_2 l1_2).bind fun g9 => (if g9 = true then (some true) else (some false))) else (some false))) else (some false))) = some r := h
 clear h; replace H := Option.bind_eq_some_iff.mp H; obtain ⟨g7, t4, H⟩ := H; (try dsimp only at H); have A3 := mk_ t4; clear t4; by_cases c4 : g7 = true
 ·subst c4; rw [if_pos rfl] at H
  replace H := Option.bind_eq_some_iff.mp H; obtain ⟨g8, t5, H⟩ := H
  (try dsimp only at H); have A5 := mk_ t5; clear t5
  by_cases c6 : g8 = true
  ·subst c6; rw [if_pos rfl] at H
   replace H := Option.bind_eq_some_iff.mp H; obtain ⟨g9, m9, H⟩ := H
   (try dsimp only at H); have A7 := mk_ m9; clear m9
   by_cases c8 : g9 = true
   ·subst c8; rw [if_pos rfl] at H
    obtain rfl := Option.some.inj H
    go_enter Try.func46, Try.ntmps46
    go_wp2_with (first | ((with_reducible refine gd_ 2 rfl ?_); refine box_event ?hg (N := 2) ?hd (cs := #[.slice A0_0 l0_0.length c0_0, .slice A0_1 l0_1.length c0_1, .slice A0_2 l0_2.length c0_2]) (t := 75) ?hr ?_; (case hd => rfl); (case hg => rfl); (case hr => exact hr_); intro h6 hg w9 hbox hb; have a7 := mk_ (hbox); have d1 := gb_ hg HB; replace HB := bp_ HB hb; have h7 := d1; clear hb hbox hg) | ((with_reducible refine gd_ 3 rfl ?_); refine box_event ?hg (N := 3) ?hd (cs := #[.slice A1_0 l1_0.length c1_0, .slice A1_1 l1_1.length c1_1, .slice A1_2 l1_2.length c1_2]) (t := 75) ?hr ?_; (case hd => rfl); (case hg => rfl); (case hr => exact hr_); intro h8 hg A2 hbox hb; have b2 := mk_ (hbox); have d2 := gb_ hg HB; replace HB := bp_ HB hb; have h9 := d2; have b3 := nb_ hg a7; replace a7 := bl_ a7 hb; have b4 := ns_ b3; clear hb hbox hg; have t6 := b3.out; have t7 := b4.out; have n2 := bc0_ a7; have n3 := bc1_ a7; have n4 := bc2_ a7; have n5 := bf_ a7 0; have n6 := bf_ a7 1; have n7 := bf_ a7 2; have n8 := bc0_ b2; have n9 := bc1_ b2; have o0 := bc2_ b2; have o1 := bf_ b2 0; have o2 := bf_ b2 1; have o3 := bf_ b2 2) | ((with_reducible refine gc_ 68 rfl ?_); refine gl_ (some 9) rfl Try.func68 #[.slice A0_0 l0_0.length c0_0, .slice A1_0 l1_0.length c1_0] ?_; (with_reducible refine (laws_eqIntS.calls k _ _ l0_0 _ _ l1_0 true _ ?a8 ?a9 ?b0 ?b1 A3.out).mono ?_); (case a8 => exact cw_ (Kd.C_below g2.out HB.out)); (case a9 => exact g3.out); (case b0 => exact cw_ (Kd.C_below g4.out HB.out)); (case b1 => exact g5.out); rintro e w' ⟨rfl, ⟨nd, rfl⟩⟩; refine ⟨_, rfl, ?_⟩) | ((with_reducible refine gc_ 68 rfl ?_); refine gl_ (some 15) rfl Try.func68 #[.slice A0_1 l0_1.length c0_1, .slice A1_1 l1_1.length c1_1] ?_; (with_reducible refine (laws_eqIntS.calls k _ _ l0_1 _ _ l1_1 true _ ?a8 ?a9 ?b0 ?b1 A5.out).mono ?_); (case a8 => repeat (first | exact (Kd.C_below h2.out (hw_ HB)) | (with_reducible refine Kd.C_alloc ?_ _) | (with_reducible refine Kd.C_drewN ?_ _) | (with_reducible refine Kd.C_drew ?_))); (case a9 => exact h3.out); (case b0 => repeat (first | exact (Kd.C_below h4.out (hw_ HB)) | (with_reducible refine Kd.C_alloc ?_ _) | (with_reducible refine Kd.C_drewN ?_ _) | (with_reducible refine Kd.C_drew ?_))); (case b1 => exact h5.out); rintro e w' ⟨rfl, ⟨nd, rfl⟩⟩; refine ⟨_, rfl, ?_⟩) | ((with_reducible refine gc_ 99 rfl ?_); refine gl_ (some 21) rfl Try.func99 #[.slice A0_2 l0_2.length c0_2, .slice A1_2 l1_2.length c1_2] ?_; (with_reducible refine (laws_eqIntSS.calls k _ _ l0_2 _ _ l1_2 true _ ?a8 ?a9 ?b0 ?b1 A7.out).mono ?_); (case a8 => repeat (first | exact (Kd.C_below j4.out (hw_ HB)) | (with_reducible refine Kd.C_alloc ?_ _) | (with_reducible refine Kd.C_drewN ?_ _) | (with_reducible refine Kd.C_drew ?_))); (case a9 => exact j5.out); (case b0 => repeat (first | exact (Kd.C_below j6.out (hw_ HB)) | (with_reducible refine Kd.C_alloc ?_ _) | (with_reducible refine Kd.C_drewN ?_ _) | (with_reducible refine Kd.C_drew ?_))); (case b1 => exact j7.out); rintro e w' ⟨rfl, ⟨nd, rfl⟩⟩; refine ⟨_, rfl, ?_⟩))
    go_ret
    exact ⟨re_, hw_ HB⟩
   ·replace c8 := Bool.eq_false_iff.mpr c8; subst c8; rw [if_neg (show ¬ (false = true) by decide)] at H; obtain rfl := Option.some.inj H
    go_enter Try.func46, Try.ntmps46
    go_wp2_with (first | ((with_reducible refine gd_ 2 rfl ?_); refine box_event ?hg (N := 2) ?hd (cs := #[.slice A0_0 l0_0.length c0_0, .slice A0_1 l0_1.length c0_1, .slice A0_2 l0_2.length c0_2]) (t := 75) ?hr ?_; (case hd => rfl); (case hg => rfl); (case hr => exact hr_); intro h6 hg A4 hbox hb; have a7 := mk_ (hbox); have d1 := gb_ hg HB; replace HB := bp_ HB hb; have h7 := d1; clear hb hbox hg) | ((with_reducible refine gd_ 3 rfl ?_); refine box_event ?hg (N := 3) ?hd (cs := #[.slice A1_0 l1_0.length c1_0, .slice A1_1 l1_1.length c1_1, .slice A1_2 l1_2.length c1_2]) (t := 75) ?hr ?_; (case hd => rfl); (case hg => rfl); (case hr => exact hr_); intro h8 hg A6 hbox hb; have b2 := mk_ (hbox); have d2 := gb_ hg HB; replace HB := bp_ HB hb; have h9 := d2; have b3 := nb_ hg a7; replace a7 := bl_ a7 hb; have b4 := ns_ b3; clear hb hbox hg; have t8 := b3.out; have t9 := b4.out; have o4 := bc0_ a7; have o5 := bc1_ a7; have o6 := bc2_ a7; have o7 := bf_ a7 0; have o8 := bf_ a7 1; have o9 := bf_ a7 2; have p0 := bc0_ b2; have p1 := bc1_ b2; have p2 := bc2_ b2; have p3 := bf_ b2 0; have p4 := bf_ b2 1; have p5 := bf_ b2 2) | ((with_reducible refine gc_ 68 rfl ?_); refine gl_ (some 9) rfl Try.func68 #[.slice A0_0 l0_0.length c0_0, .slice A1_0 l1_0.length c1_0] ?_; (with_reducible refine (laws_eqIntS.calls k _ _ l0_0 _ _ l1_0 true _ ?a8 ?a9 ?b0 ?b1 A3.out).mono ?_); (case a8 => exact cw_ (Kd.C_below g2.out HB.out)); (case a9 => exact g3.out); (case b0 => exact cw_ (Kd.C_below g4.out HB.out)); (case b1 => exact g5.out); rintro e w' ⟨rfl, ⟨nd, rfl⟩⟩; refine ⟨_, rfl, ?_⟩) | ((with_reducible refine gc_ 68 rfl ?_); refine gl_ (some 15) rfl Try.func68 #[.slice A0_1 l0_1.length c0_1, .slice A1_1 l1_1.length c1_1] ?_; (with_reducible refine (laws_eqIntS.calls k _ _ l0_1 _ _ l1_1 true _ ?a8 ?a9 ?b0 ?b1 A5.out).mono ?_); (case a8 => repeat (first | exact (Kd.C_below h2.out (hw_ HB)) | (with_reducible refine Kd.C_alloc ?_ _) | (with_reducible refine Kd.C_drewN ?_ _) | (with_reducible refine Kd.C_drew ?_))); (case a9 => exact h3.out); (case b0 => repeat (first | exact (Kd.C_below h4.out (hw_ HB)) | (with_reducible refine Kd.C_alloc ?_ _) | (with_reducible refine Kd.C_drewN ?_ _) | (with_reducible refine Kd.C_drew ?_))); (case b1 => exact h5.out); rintro e w' ⟨rfl, ⟨nd, rfl⟩⟩; refine ⟨_, rfl, ?_⟩) | ((with_reducible refine gc_ 99 rfl ?_); refine gl_ (some 21) rfl Try.func99 #[.slice A0_2 l0_2.length c0_2, .slice A1_2 l1_2.length c1_2] ?_; (with_reducible refine (laws_eqIntSS.calls k _ _ l0_2 _ _ l1_2 false _ ?a8 ?a9 ?b0 ?b1 A7.out).mono ?_); (case a8 => repeat (first | exact (Kd.C_below j4.out (hw_ HB)) | (with_reducible refine Kd.C_alloc ?_ _) | (with_reducible refine Kd.C_drewN ?_ _) | (with_reducible refine Kd.C_drew ?_))); (case a9 => exact j5.out); (case b0 => repeat (first | exact (Kd.C_below j6.out (hw_ HB)) | (with_reducible refine Kd.C_alloc ?_ _) | (with_reducible refine Kd.C_drewN ?_ _) | (with_reducible refine Kd.C_drew ?_))); (case b1 => exact j7.out); rintro e w' ⟨rfl, ⟨nd, rfl⟩⟩; refine ⟨_, rfl, ?_⟩))
    go_ret
    exact ⟨re_, hw_ HB⟩
  ·replace c6 := Bool.eq_false_iff.mpr c6; subst c6; rw [if_neg (show ¬ (false = true) by decide)] at H; obtain rfl := Option.some.inj H
   go_enter Try.func46, Try.ntmps46
   go_wp2_with (first | ((with_reducible refine gd_ 2 rfl ?_); refine box_event ?hg (N := 2) ?hd (cs := #[.slice A0_0 l0_0.length c0_0, .slice A0_1 l0_1.length c0_1, .slice A0_2 l0_2.length c0_2]) (t := 75) ?hr ?_; (case hd => rfl); (case hg => rfl); (case hr => exact hr_); intro h6 hg A8 hbox hb; have a7 := mk_ (hbox); have d1 := gb_ hg HB; replace HB := bp_ HB hb; have h7 := d1; clear hb hbox hg) | ((with_reducible refine gd_ 3 rfl ?_); refine box_event ?hg (N := 3) ?hd (cs := #[.slice A1_0 l1_0.length c1_0, .slice A1_1 l1_1.length c1_1, .slice A1_2 l1_2.length c1_2]) (t := 75) ?hr ?_; (case hd => rfl); (case hg => rfl); (case hr => exact hr_); intro h8 hg A9 hbox hb; have b2 := mk_ (hbox); have d2 := gb_ hg HB; replace HB := bp_ HB hb; have h9 := d2; have b3 := nb_ hg a7; replace a7 := bl_ a7 hb; have b4 := ns_ b3; clear hb hbox hg; have y3 := b3.out; have y4 := b4.out; have p6 := bc0_ a7; have p7 := bc1_ a7; have p8 := bc2_ a7; have p9 := bf_ a7 0; have q0 := bf_ a7 1; have q1 := bf_ a7 2; have q2 := bc0_ b2; have q3 := bc1_ b2; have q4 := bc2_ b2; have q5 := bf_ b2 0; have q6 := bf_ b2 1; have q7 := bf_ b2 2) | ((with_reducible refine gc_ 68 rfl ?_); refine gl_ (some 9) rfl Try.func68 #[.slice A0_0 l0_0.length c0_0, .slice A1_0 l1_0.length c1_0] ?_; (with_reducible refine (laws_eqIntS.calls k _ _ l0_0 _ _ l1_0 true _ ?a8 ?a9 ?b0 ?b1 A3.out).mono ?_); (case a8 => exact cw_ (Kd.C_below g2.out HB.out)); (case a9 => exact g3.out); (case b0 => exact cw_ (Kd.C_below g4.out HB.out)); (case b1 => exact g5.out); rintro e w' ⟨rfl, ⟨nd, rfl⟩⟩; refine ⟨_, rfl, ?_⟩) | ((with_reducible refine gc_ 68 rfl ?_); refine gl_ (some 15) rfl Try.func68 #[.slice A0_1 l0_1.length c0_1, .slice A1_1 l1_1.length c1_1] ?_; (with_reducible refine (laws_eqIntS.calls k _ _ l0_1 _ _ l1_1 false _ ?a8 ?a9 ?b0 ?b1 A5.out).mono ?_); (case a8 => repeat (first | exact (Kd.C_below h2.out (hw_ HB)) | (with_reducible refine Kd.C_alloc ?_ _) | (with_reducible refine Kd.C_drewN ?_ _) | (with_reducible refine Kd.C_drew ?_))); (case a9 => exact h3.out); (case b0 => repeat (first | exact (Kd.C_below h4.out (hw_ HB)) | (with_reducible refine Kd.C_alloc ?_ _) | (with_reducible refine Kd.C_drewN ?_ _) | (with_reducible refine Kd.C_drew ?_))); (case b1 => exact h5.out); rintro e w' ⟨rfl, ⟨nd, rfl⟩⟩; refine ⟨_, rfl, ?_⟩))
   go_ret
   exact ⟨re_, hw_ HB⟩
 ·replace c4 := Bool.eq_false_iff.mpr c4; subst c4; rw [if_neg (show ¬ (false = true) by decide)] at H; obtain rfl := Option.some.inj H
  go_enter Try.func46, Try.ntmps46
  go_wp2_with (first | ((with_reducible refine gd_ 2 rfl ?_); refine box_event ?hg (N := 2) ?hd (cs := #[.slice A0_0 l0_0.length c0_0, .slice A0_1 l0_1.length c0_1, .slice A0_2 l0_2.length c0_2]) (t := 75) ?hr ?_; (case hd => rfl); (case hg => rfl); (case hr => exact hr_); intro h6 hg B0 hbox hb; have a7 := mk_ (hbox); have d1 := gb_ hg HB; replace HB := bp_ HB hb; have h7 := d1; clear hb hbox hg) | ((with_reducible refine gd_ 3 rfl ?_); refine box_event ?hg (N := 3) ?hd (cs := #[.slice A1_0 l1_0.length c1_0, .slice A1_1 l1_1.length c1_1, .slice A1_2 l1_2.length c1_2]) (t := 75) ?hr ?_; (case hd => rfl); (case hg => rfl); (case hr => exact hr_); intro h8 hg B1 hbox hb; have b2 := mk_ (hbox); have d2 := gb_ hg HB; replace HB := bp_ HB hb; have h9 := d2; have b3 := nb_ hg a7; replace a7 := bl_ a7 hb; have b4 := ns_ b3; clear hb hbox hg; have y5 := b3.out; have y6 := b4.out; have q8 := bc0_ a7; have q9 := bc1_ a7; have s0 := bc2_ a7; have s1 := bf_ a7 0; have s2 := bf_ a7 1; have s3 := bf_ a7 2; have s4 := bc0_ b2; have s5 := bc1_ b2; have s6 := bc2_ b2; have s7 := bf_ b2 0; have s8 := bf_ b2 1; have s9 := bf_ b2 2) | ((with_reducible refine gc_ 68 rfl ?_); refine gl_ (some 9) rfl Try.func68 #[.slice A0_0 l0_0.length c0_0, .slice A1_0 l1_0.length c1_0] ?_; (with_reducible refine (laws_eqIntS.calls k _ _ l0_0 _ _ l1_0 false _ ?a8 ?a9 ?b0 ?b1 A3.out).mono ?_); (case a8 => exact cw_ (Kd.C_below g2.out HB.out)); (case a9 => exact g3.out); (case b0 => exact cw_ (Kd.C_below g4.out HB.out)); (case b1 => exact g5.out); rintro e w' ⟨rfl, ⟨nd, rfl⟩⟩; refine ⟨_, rfl, ?_⟩))
  go_ret
  exact ⟨re_, hw_ HB⟩

end Go.Proofs.Ytnphbpkpjinddaa.QFnExactAtGrid
-- squeezed
