/- Lean functions that tell what the Go functions used by one law answer, and for each a proof that the Go code comes to just these answers; no condition. Printed by this session's own program over the kit's printer. -/
import Derived.Test.YtnphbpkpjinddaaWSq
import Derived.Test.YtnphbpkpjinddaaQFnExactAtGridx0
namespace Go.Proofs.Ytnphbpkpjinddaa.QFnExactAtGrid
open Go.RowKit Go.Proofs.YtnphbpkpjinddaaW.PrintWords Go.Proofs.YtnphbpkpjinddaaW.PrintLast Go.Proofs.YtnphbpkpjinddaaW.PrintMore
attribute [local go_sem] max2_int min2_int max_two min_two max_three min_three max_four min_four   -- for this text's walks alone
attribute [local go_sem high] go_eql go_neq go_lss go_leq go_gtr go_geq go_store   -- for this text's walks alone
set_option linter.unusedVariables false
set_option linter.unusedSimpArgs false

/-! ### laws_eqFrac: function 28 -/
def laws_eqFrac.f (a0_0 : Int) (a0_1 : Int) (a1_0 : Int) (a1_1 : Int) : Option (Bool) := if a0_0 = a1_0 then (if a0_1 = a1_1 then (some true) else (some false)) else (some false)
set_option maxHeartbeats 8000000 in
set_option maxRecDepth 100000 in
theorem laws_eqFrac.calls (a0_0 : Int) (a0_1 : Int) (a1_0 : Int) (a1_1 : Int) (r : Bool) (w : World) (h : laws_eqFrac.f a0_0 a0_1 a1_0 a1_1 = some r) :
  Calls Try.prog 28 #[.agg #[.int .i64 a0_0, .int .i64 a0_1], .agg #[.int .i64 a1_0, .int .i64 a1_1]] w fun e w' => e = .returned (.bool r) ∧ Below w.heap.size w w' := by
 have q3 := Try.underlying48
 have HB := mk_ (Below.refl w.heap.size w)
 have H : (if a0_0 = a1_0 then (if a0_1 = a1_1 then (some true) else (some false)) else (some false)) = some r := h
 clear h; by_cases c3 : a0_0 = a1_0
 ·rw [if_pos c3] at H; have g3 : (a0_0 == a1_0) = true := beq_iff_eq.mpr c3; have q4 : (a0_0 != a1_0) = false := bne_eq_false_iff_eq.mpr c3; clear c3; by_cases c4 : a0_1 = a1_1
  ·rw [if_pos c4] at H; have d1 : (a0_1 == a1_1) = true := beq_iff_eq.mpr c4; have q5 : (a0_1 != a1_1) = false := bne_eq_false_iff_eq.mpr c4; clear c4; obtain rfl := Option.some.inj H
   go_enter Try.func28, Try.ntmps28
   go_wp2_with (first | ((with_reducible refine gd_ 2 rfl ?_); refine box_event ?hg (N := 2) ?hd (cs := #[.int .i64 a0_0, .int .i64 a0_1]) (t := 48) ?hr ?_; (case hd => rfl); (case hg => rfl); (case hr => exact hr_); intro l4 hg w5 hbox hb; have a5 := mk_ (hbox); have d7 := gb_ hg HB; replace HB := bp_ HB hb; have l5 := d7; clear hb hbox hg) | ((with_reducible refine gd_ 3 rfl ?_); refine box_event ?hg (N := 3) ?hd (cs := #[.int .i64 a1_0, .int .i64 a1_1]) (t := 48) ?hr ?_; (case hd => rfl); (case hg => rfl); (case hr => exact hr_); intro l6 hg w6 hbox hb; have b0 := mk_ (hbox); have d8 := gb_ hg HB; replace HB := bp_ HB hb; have l7 := d8; have a8 := nb_ hg a5; replace a5 := bl_ a5 hb; have b2 := ns_ a8; clear hb hbox hg; have y9 := a8.out; have A1 := b2.out; have q6 := bc0_ a5; have q7 := bc1_ a5; have q8 := bf_ a5 0; have q9 := bf_ a5 1; have s0 := bc0_ b0; have s1 := bc1_ b0; have s2 := bf_ b0 0; have s3 := bf_ b0 1))
   go_ret
   exact ⟨re_, hw_ HB⟩
  ·rw [if_neg c4] at H; have d1 : (a0_1 == a1_1) = false := beq_eq_false_iff_ne.mpr c4; have q5 : (a0_1 != a1_1) = true := bne_iff_ne.mpr c4; obtain rfl := Option.some.inj H
   go_enter Try.func28, Try.ntmps28
   go_wp2_with (first | ((with_reducible refine gd_ 2 rfl ?_); refine box_event ?hg (N := 2) ?hd (cs := #[.int .i64 a0_0, .int .i64 a0_1]) (t := 48) ?hr ?_; (case hd => rfl); (case hg => rfl); (case hr => exact hr_); intro l4 hg B1 hbox hb; have a5 := mk_ (hbox); have d7 := gb_ hg HB; replace HB := bp_ HB hb; have l5 := d7; clear hb hbox hg) | ((with_reducible refine gd_ 3 rfl ?_); refine box_event ?hg (N := 3) ?hd (cs := #[.int .i64 a1_0, .int .i64 a1_1]) (t := 48) ?hr ?_; (case hd => rfl); (case hg => rfl); (case hr => exact hr_); intro l6 hg B2 hbox hb; have b0 := mk_ (hbox); have d8 := gb_ hg HB; replace HB := bp_ HB hb; have l7 := d8; have a8 := nb_ hg a5; replace a5 := bl_ a5 hb; have b2 := ns_ a8; clear hb hbox hg; have t4 := a8.out; have t5 := b2.out; have n7 := bc0_ a5; have n8 := bc1_ a5; have n9 := bf_ a5 0; have o0 := bf_ a5 1; have j5 := bc0_ b0; have j6 := bc1_ b0; have j7 := bf_ b0 0; have j8 := bf_ b0 1))
   go_ret
   exact ⟨re_, hw_ HB⟩
 ·rw [if_neg c3] at H; have g3 : (a0_0 == a1_0) = false := beq_eq_false_iff_ne.mpr c3; have q4 : (a0_0 != a1_0) = true := bne_iff_ne.mpr c3; obtain rfl := Option.some.inj H
  go_enter Try.func28, Try.ntmps28
  go_wp2_with (first | ((with_reducible refine gd_ 2 rfl ?_); refine box_event ?hg (N := 2) ?hd (cs := #[.int .i64 a0_0, .int .i64 a0_1]) (t := 48) ?hr ?_; (case hd => rfl); (case hg => rfl); (case hr => exact hr_); intro l4 hg A2 hbox hb; have a5 := mk_ (hbox); have d7 := gb_ hg HB; replace HB := bp_ HB hb; have l5 := d7; clear hb hbox hg) | ((with_reducible refine gd_ 3 rfl ?_); refine box_event ?hg (N := 3) ?hd (cs := #[.int .i64 a1_0, .int .i64 a1_1]) (t := 48) ?hr ?_; (case hd => rfl); (case hg => rfl); (case hr => exact hr_); intro l6 hg B3 hbox hb; have b0 := mk_ (hbox); have d8 := gb_ hg HB; replace HB := bp_ HB hb; have l7 := d8; have a8 := nb_ hg a5; replace a5 := bl_ a5 hb; have b2 := ns_ a8; clear hb hbox hg; have t6 := a8.out; have t7 := b2.out; have o1 := bc0_ a5; have o2 := bc1_ a5; have o3 := bf_ a5 0; have o4 := bf_ a5 1; have o5 := bc0_ b0; have o6 := bc1_ b0; have o7 := bf_ b0 0; have o8 := bf_ b0 1))
  go_ret
  exact ⟨re_, hw_ HB⟩

/-! ### laws_szIntS: function 62 -/
def laws_szIntS.f (l0 : List Int) (a1 : Int) : Option (Int) := if (wrap64 (a1 - (l0.length : Int))) < 0 then (some (-1)) else (some (wrap64 (a1 - (l0.length : Int))))
set_option maxHeartbeats 8000000 in
set_option maxRecDepth 100000 in
theorem laws_szIntS.calls (A0 : Option Addr) (c0 : Nat) (l0 : List Int) (a1 : Int) (r : Int) (w : World) (hr0 : Kd.C (Kd.int .i64) w A0 l0.length l0) (hc0 : l0.length ≤ c0) (h : laws_szIntS.f l0 a1 = some r) :
  Calls Try.prog 62 #[.slice A0 l0.length c0, .int .i64 a1] w fun e w' => e = .returned (.int .i64 r) ∧ Drawn0 w w' := by
 have j9 := mk_ hr0; have s4 := mk_ hc0; clear hr0 hc0
 have H : (if (wrap64 (a1 - (l0.length : Int))) < 0 then (some (-1)) else (some (wrap64 (a1 - (l0.length : Int))))) = some r := h
 clear h; by_cases c3 : (wrap64 (a1 - (l0.length : Int))) < 0
 ·rw [if_pos c3] at H; have g3 : decide ((wrap64 (a1 - (l0.length : Int))) < 0) = true := decide_eq_true c3; clear c3; obtain rfl := Option.some.inj H
  go_enter Try.func62, Try.ntmps62
  go_wp2; go_ret
  exact ⟨by first | rfl | (simp; done) | (simp [*]; done), by repeat (first | exact Drawn0.refl _ | apply Drawn0.step)⟩
 ·rw [if_neg c3] at H; have g3 : decide ((wrap64 (a1 - (l0.length : Int))) < 0) = false := decide_eq_false c3; clear c3; obtain rfl := Option.some.inj H
  go_enter Try.func62, Try.ntmps62
  go_wp2; go_ret
  exact ⟨by first | rfl | (simp; done) | (simp [*]; done), by repeat (first | exact Drawn0.refl _ | apply Drawn0.step)⟩

/-! ### laws_szIntSS: function 95 -/
def laws_szIntSS.l0 : Nat → List (List Int) → Int → Int → Option (Int)
 | 0, _, _, _ => none
 | k + 1, x0, x1, x5 => if x5 < (x0.length : Int) then (if 0 ≤ x5 then ((laws_szIntS.f (rd_L1 x0 x5) x1).bind fun d2 => (if d2 < 0 then (some (-1)) else (laws_szIntSS.l0 k x0 d2 (wrap64 (x5 + 1))))) else (none)) else (some x1)
def laws_szIntSS.f (k : Nat) (l0 : List (List Int)) (a1 : Int) : Option (Int) := if (wrap64 (a1 - (l0.length : Int))) < 0 then (some (-1)) else (laws_szIntSS.l0 k l0 (wrap64 (a1 - (l0.length : Int))) 0)
theorem laws_szIntSS.mono_l : ∀ k, (∀ y0 y1 y2, LeO (laws_szIntSS.l0 k y0 y1 y2) (laws_szIntSS.l0 (k + 1) y0 y1 y2))
 | 0 => fun _ _ _ r h => by simp [laws_szIntSS.l0] at h
 | k + 1 => by
  have b8 := laws_szIntSS.mono_l k
  ·intro y0 y1 y2
   unfold laws_szIntSS.l0
   repeat' first
   | (with_reducible exact b8 _ _ _)
   | (with_reducible exact LeO.refl _)
   | (with_reducible exact LeO.none _)
   | (with_reducible refine LeO.ite ?_ ?_)
   | (with_reducible refine LeO.bind ?_ (fun _ => ?_))
   | exact b8 _ _ _
   | exact LeO.none _
   | refine LeO.ite ?_ ?_
   | refine LeO.bind ?_ (fun _ => ?_)
theorem laws_szIntSS.mono : ∀ a0 a1 k, LeO (laws_szIntSS.f k a0 a1) (laws_szIntSS.f (k + 1) a0 a1) := by
 intro a0 a1 k
 have b8 := laws_szIntSS.mono_l k
 unfold laws_szIntSS.f
 repeat' first
   | (with_reducible exact b8 _ _ _)
   | (with_reducible exact LeO.refl _)
   | (with_reducible exact LeO.none _)
   | (with_reducible refine LeO.ite ?_ ?_)
   | (with_reducible refine LeO.bind ?_ (fun _ => ?_))
   | exact b8 _ _ _
   | exact LeO.none _
   | refine LeO.ite ?_ ?_
   | refine LeO.bind ?_ (fun _ => ?_)
set_option maxHeartbeats 8000000 in
set_option maxRecDepth 100000 in
theorem laws_szIntSS.calls (k : Nat) (A0 : Option Addr) (c0 : Nat) (l0 : List (List Int)) (a1 : Int) (r : Int) (w : World) (hr0 : Kd.C (Kd.slice 3 (Kd.int .i64)) w A0 l0.length l0) (hc0 : l0.length ≤ c0) (h : laws_szIntSS.f k l0 a1 = some r) :
  Calls Try.prog 95 #[.slice A0 l0.length c0, .int .i64 a1] w fun e w' => e = .returned (.int .i64 r) ∧ Drawn0 w w' := by
 have j9 := mk_ hr0; have s4 := mk_ hc0; clear hr0 hc0
 have H : (if (wrap64 (a1 - (l0.length : Int))) < 0 then (some (-1)) else (laws_szIntSS.l0 k l0 (wrap64 (a1 - (l0.length : Int))) 0)) = some r := h
 clear h; by_cases c3 : (wrap64 (a1 - (l0.length : Int))) < 0
 ·rw [if_pos c3] at H; have g3 : decide ((wrap64 (a1 - (l0.length : Int))) < 0) = true := decide_eq_true c3; clear c3; obtain rfl := Option.some.inj H
  go_enter Try.func95, Try.ntmps95
  go_wp2; go_ret
  exact ⟨by first | rfl | (simp; done) | (simp [*]; done), by repeat (first | exact Drawn0.refl _ | apply Drawn0.step)⟩
 ·rw [if_neg c3] at H; have g3 : decide ((wrap64 (a1 - (l0.length : Int))) < 0) = false := decide_eq_false c3; clear c3
  have H' := mk_ H
  clear H
  go_enter Try.func95, Try.ntmps95
  go_wp2
  go_loopg [1, 5] k (fun kq v1 v5 w' => ∃ (g4 : Int) (a9 : Int), v1 = .int .i64 g4 ∧ v5 = .int .i64 a9 ∧ Aside0 (laws_szIntSS.l0 kq l0 g4 a9 = some r) ∧ Aside0 (kq ≤ k) ∧ Drawn0 w w')
  case atStart => exact ⟨(wrap64 (a1 - (l0.length : Int))), (0), rf_, rf_, H', ⟨Nat.le_refl _⟩, by repeat (first | exact Drawn0.refl _ | apply Drawn0.step)⟩
  case round =>
   clear H'; (try clear c3)
   obtain ⟨g4, a9, rfl, rfl, HA, l8, ⟨m1, rfl⟩⟩ := hrel
   cases gk with
   | zero => exact absurd HA.out (by simp [laws_szIntSS.l0])
   | succ k1 =>
    have H := HA.out; clear HA
    simp only [laws_szIntSS.l0] at H
    by_cases c4 : a9 < (l0.length : Int)
    ·rw [if_pos c4] at H; have d1 : decide (a9 < (l0.length : Int)) = true := decide_eq_true c4; clear c4; by_cases c5 : 0 ≤ a9
     ·rw [if_pos c5] at H; have d9 : decide (0 ≤ a9) = true := decide_eq_true c5; clear c5; replace H := Option.bind_eq_some_iff.mp H; obtain ⟨d2, l9, H⟩ := H; (try dsimp only at H); have A6 := mk_ l9; clear l9; by_cases c7 : d2 < 0
      ·rw [if_pos c7] at H; have h7 : decide (d2 < 0) = true := decide_eq_true c7; clear c7; obtain rfl := Option.some.inj H
       have g5 : 0 ≤ (a9 : Int) := od_
       have g6 : a9 < (l0.length : Int) := od_
       obtain ⟨m9, g7, g8, m3, l1, b6, b7⟩ := at_L1 j9.out a9 g5 g6; cases m3; have d3 := mk_ b7; have d4 := mk_ b6; clear b7 b6; replace g5 := eq_true g5; replace g6 := eq_true g6
       go_wp2_with (first | ((with_reducible refine gc_ 62 rfl ?_); refine gl_ (some 23) rfl Try.func62 #[.slice g7 (rd_L1 l0 a9).length g8, .int .i64 g4] ?_; (with_reducible refine (laws_szIntS.calls _ _ (rd_L1 l0 a9) g4 d2 _ ?a6 ?a7 A6.out).mono ?_); (case a6 => exact cw_ d3.out); (case a7 => exact d4.out); rintro e w' ⟨rfl, ⟨nd, rfl⟩⟩; refine ⟨_, rfl, ?_⟩))
       go_ret
       exact ⟨by first | rfl | (simp; done) | (simp [*]; done), by repeat (first | exact Drawn0.refl _ | apply Drawn0.step)⟩
      ·rw [if_neg c7] at H; have h7 : decide (d2 < 0) = false := decide_eq_false c7; clear c7
       have H' := mk_ H
       clear H
       have g5 : 0 ≤ (a9 : Int) := od_
       have g6 : a9 < (l0.length : Int) := od_
       obtain ⟨m9, g7, g8, m3, l1, b6, b7⟩ := at_L1 j9.out a9 g5 g6; cases m3; have d3 := mk_ b7; have d4 := mk_ b6; clear b7 b6; replace g5 := eq_true g5; replace g6 := eq_true g6
       go_wp2_with (first | ((with_reducible refine gc_ 62 rfl ?_); refine gl_ (some 23) rfl Try.func62 #[.slice g7 (rd_L1 l0 a9).length g8, .int .i64 g4] ?_; (with_reducible refine (laws_szIntS.calls _ _ (rd_L1 l0 a9) g4 d2 _ ?a6 ?a7 A6.out).mono ?_); (case a6 => exact cw_ d3.out); (case a7 => exact d4.out); rintro e w' ⟨rfl, ⟨nd, rfl⟩⟩; refine ⟨_, rfl, ?_⟩))
       go_roundg k1
       case measure => have := l8.out; omega
       case rel => exact ⟨(d2), (wrap64 (a9 + 1)), rf_, rf_, H', ⟨by have := l8.out; omega⟩, by repeat (first | exact Drawn0.refl _ | apply Drawn0.step)⟩
     ·rw [if_neg c5] at H
      exact absurd H (by simp)
    ·rw [if_neg c4] at H; have d1 : decide (a9 < (l0.length : Int)) = false := decide_eq_false c4; clear c4; obtain rfl := Option.some.inj H; go_wp2; go_ret
     exact ⟨by first | rfl | (simp; done) | (simp [*]; done), by repeat (first | exact Drawn0.refl _ | apply Drawn0.step)⟩

/-! ### laws_szGrid: function 42 -/
def laws_szGrid.f (k : Nat) (l0_0 : List Int) (l0_1 : List Int) (l0_2 : List (List Int)) (a1 : Int) : Option (Int) := (laws_szIntS.f l0_0 a1).bind fun b3 => (if b3 < 0 then (some (-1)) else ((laws_szIntS.f l0_1 b3).bind fun b5 => (if b5 < 0 then (some (-1)) else ((laws_szIntSS.f k l0_2 b5).bind fun b9 => (if b9 < 0 then (some (-1)) else (some b9))))))
theorem laws_szGrid.mono : ∀ a0 a1 a2 a3 k, LeO (laws_szGrid.f k a0 a1 a2 a3) (laws_szGrid.f (k + 1) a0 a1 a2 a3) := by
 intro a0 a1 a2 a3 k
 unfold laws_szGrid.f
 repeat' first
   | (with_reducible exact laws_szIntSS.mono _ _ _)
   | (with_reducible exact LeO.refl _)
   | (with_reducible exact LeO.none _)
   | (with_reducible refine LeO.ite ?_ ?_)
   | (with_reducible refine LeO.bind ?_ (fun _ => ?_))
   | exact laws_szIntSS.mono _ _ _
   | exact LeO.none _
   | refine LeO.ite ?_ ?_
   | refine LeO.bind ?_ (fun _ => ?_)
set_option maxHeartbeats 8000000 in
set_option maxRecDepth 100000 in
theorem laws_szGrid.calls (k : Nat) (A0_0 : Option Addr) (c0_0 : Nat) (l0_0 : List Int) (A0_1 : Option Addr) (c0_1 : Nat) (l0_1 : List Int) (A0_2 : Option Addr) (c0_2 : Nat) (l0_2 : List (List Int)) (a1 : Int) (r : Int) (w : World) (hr0_0 : Kd.C (Kd.int .i64) w A0_0 l0_0.length l0_0) (hc0_0 : l0_0.length ≤ c0_0) (hr0_1 : Kd.C (Kd.int .i64) w A0_1 l0_1.length l0_1) (hc0_1 : l0_1.length ≤ c0_1) (hr0_2 : Kd.C (Kd.slice 3 (Kd.int .i64)) w A0_2 l0_2.length l0_2) (hc0_2 : l0_2.length ≤ c0_2) (h : laws_szGrid.f k l0_0 l0_1 l0_2 a1 = some r) :
  Calls Try.prog 42 #[.agg #[.slice A0_0 l0_0.length c0_0, .slice A0_1 l0_1.length c0_1, .slice A0_2 l0_2.length c0_2], .int .i64 a1] w fun e w' => e = .returned (.int .i64 r) ∧ Below w.heap.size w w' := by
 have A4 := Try.underlying72
 have h5 := mk_ hr0_0; have h6 := mk_ hc0_0; clear hr0_0 hc0_0; have h8 := mk_ hr0_1; have h9 := mk_ hc0_1; clear hr0_1 hc0_1; have m0 := mk_ hr0_2; have m2 := mk_ hc0_2; clear hr0_2 hc0_2; have HB := mk_ (Below.refl w.heap.size w)
 have H : ((laws_szIntS.f l0_0 a1).bind fun b3 => (if b3 < 0 then (some (-1)) else ((laws_szIntS.f l0_1 b3).bind fun b5 => (if b5 < 0 then (some (-1)) else ((laws_szIntSS.f k l0_2 b5).bind fun b9 => (if b9 < 0 then (some (-1)) else (some b9))))))) = some r := h
 clear h; replace H := Option.bind_eq_some_iff.mp H; obtain ⟨b3, t8, H⟩ := H; (try dsimp only at H); have A3 := mk_ t8; clear t8; by_cases c4 : b3 < 0
 ·rw [if_pos c4] at H; have d1 : decide (b3 < 0) = true := decide_eq_true c4; clear c4; obtain rfl := Option.some.inj H
  go_enter Try.func42, Try.ntmps42
  go_wp2_with (first | ((with_reducible refine gd_ 2 rfl ?_); refine box_event ?hg (N := 2) ?hd (cs := #[.slice A0_0 l0_0.length c0_0, .slice A0_1 l0_1.length c0_1, .slice A0_2 l0_2.length c0_2]) (t := 72) ?hr ?_; (case hd => rfl); (case hg => rfl); (case hr => exact hr_); intro j1 hg w5 hbox hb; have a4 := mk_ (hbox); have c1 := gb_ hg HB; replace HB := bp_ HB hb; have j2 := c1; clear hb hbox hg; have s5 := bc0_ a4; have s6 := bc1_ a4; have s7 := bc2_ a4; have s8 := bf_ a4 0; have s9 := bf_ a4 1; have t0 := bf_ a4 2) | ((with_reducible refine gc_ 62 rfl ?_); refine gl_ (some 8) rfl Try.func62 #[.slice A0_0 l0_0.length c0_0, .int .i64 a1] ?_; (with_reducible refine (laws_szIntS.calls _ _ l0_0 a1 b3 _ ?a6 ?a7 A3.out).mono ?_); (case a6 => exact cw_ (Kd.C_below h5.out HB.out)); (case a7 => exact h6.out); rintro e w' ⟨rfl, ⟨nd, rfl⟩⟩; refine ⟨_, rfl, ?_⟩))
  go_ret
  exact ⟨re_, hw_ HB⟩
 ·rw [if_neg c4] at H; have d1 : decide (b3 < 0) = false := decide_eq_false c4; clear c4; replace H := Option.bind_eq_some_iff.mp H; obtain ⟨b5, t9, H⟩ := H; (try dsimp only at H); have A7 := mk_ t9; clear t9; by_cases c8 : b5 < 0
  ·rw [if_pos c8] at H; have n0 : decide (b5 < 0) = true := decide_eq_true c8; clear c8; obtain rfl := Option.some.inj H
   go_enter Try.func42, Try.ntmps42
   go_wp2_with (first | ((with_reducible refine gd_ 2 rfl ?_); refine box_event ?hg (N := 2) ?hd (cs := #[.slice A0_0 l0_0.length c0_0, .slice A0_1 l0_1.length c0_1, .slice A0_2 l0_2.length c0_2]) (t := 72) ?hr ?_; (case hd => rfl); (case hg => rfl); (case hr => exact hr_); intro j1 hg w9 hbox hb; have a4 := mk_ (hbox); have c1 := gb_ hg HB; replace HB := bp_ HB hb; have j2 := c1; clear hb hbox hg; have o9 := bc0_ a4; have p0 := bc1_ a4; have p1 := bc2_ a4; have p2 := bf_ a4 0; have p3 := bf_ a4 1; have p4 := bf_ a4 2) | ((with_reducible refine gc_ 62 rfl ?_); refine gl_ (some 8) rfl Try.func62 #[.slice A0_0 l0_0.length c0_0, .int .i64 a1] ?_; (with_reducible refine (laws_szIntS.calls _ _ l0_0 a1 b3 _ ?a6 ?a7 A3.out).mono ?_); (case a6 => exact cw_ (Kd.C_below h5.out HB.out)); (case a7 => exact h6.out); rintro e w' ⟨rfl, ⟨nd, rfl⟩⟩; refine ⟨_, rfl, ?_⟩) | ((with_reducible refine gc_ 62 rfl ?_); refine gl_ (some 14) rfl Try.func62 #[.slice A0_1 l0_1.length c0_1, .int .i64 b3] ?_; (with_reducible refine (laws_szIntS.calls _ _ l0_1 b3 b5 _ ?a6 ?a7 A7.out).mono ?_); (case a6 => repeat (first | exact (Kd.C_below h8.out (hw_ HB)) | (with_reducible refine Kd.C_alloc ?_ _) | (with_reducible refine Kd.C_drewN ?_ _) | (with_reducible refine Kd.C_drew ?_))); (case a7 => exact h9.out); rintro e w' ⟨rfl, ⟨nd, rfl⟩⟩; refine ⟨_, rfl, ?_⟩))
   go_ret
   exact ⟨re_, hw_ HB⟩
  ·rw [if_neg c8] at H; have n0 : decide (b5 < 0) = false := decide_eq_false c8; clear c8; replace H := Option.bind_eq_some_iff.mp H; obtain ⟨b9, n1, H⟩ := H; (try dsimp only at H); have y4 := mk_ n1; clear n1; by_cases m8 : b9 < 0
   ·rw [if_pos m8] at H; have n2 : decide (b9 < 0) = true := decide_eq_true m8; clear m8; obtain rfl := Option.some.inj H
    go_enter Try.func42, Try.ntmps42
    go_wp2_with (first | ((with_reducible refine gd_ 2 rfl ?_); refine box_event ?hg (N := 2) ?hd (cs := #[.slice A0_0 l0_0.length c0_0, .slice A0_1 l0_1.length c0_1, .slice A0_2 l0_2.length c0_2]) (t := 72) ?hr ?_; (case hd => rfl); (case hg => rfl); (case hr => exact hr_); intro j1 hg B4 hbox hb; have a4 := mk_ (hbox); have c1 := gb_ hg HB; replace HB := bp_ HB hb; have j2 := c1; clear hb hbox hg; have j5 := bc0_ a4; have j6 := bc1_ a4; have p5 := bc2_ a4; have j7 := bf_ a4 0; have j8 := bf_ a4 1; have p6 := bf_ a4 2) | ((with_reducible refine gc_ 62 rfl ?_); refine gl_ (some 8) rfl Try.func62 #[.slice A0_0 l0_0.length c0_0, .int .i64 a1] ?_; (with_reducible refine (laws_szIntS.calls _ _ l0_0 a1 b3 _ ?a6 ?a7 A3.out).mono ?_); (case a6 => exact cw_ (Kd.C_below h5.out HB.out)); (case a7 => exact h6.out); rintro e w' ⟨rfl, ⟨nd, rfl⟩⟩; refine ⟨_, rfl, ?_⟩) | ((with_reducible refine gc_ 62 rfl ?_); refine gl_ (some 14) rfl Try.func62 #[.slice A0_1 l0_1.length c0_1, .int .i64 b3] ?_; (with_reducible refine (laws_szIntS.calls _ _ l0_1 b3 b5 _ ?a6 ?a7 A7.out).mono ?_); (case a6 => repeat (first | exact (Kd.C_below h8.out (hw_ HB)) | (with_reducible refine Kd.C_alloc ?_ _) | (with_reducible refine Kd.C_drewN ?_ _) | (with_reducible refine Kd.C_drew ?_))); (case a7 => exact h9.out); rintro e w' ⟨rfl, ⟨nd, rfl⟩⟩; refine ⟨_, rfl, ?_⟩) | ((with_reducible refine gc_ 95 rfl ?_); refine gl_ (some 20) rfl Try.func95 #[.slice A0_2 l0_2.length c0_2, .int .i64 b5] ?_; (with_reducible refine (laws_szIntSS.calls k _ _ l0_2 b5 b9 _ ?a6 ?a7 y4.out).mono ?_); (case a6 => repeat (first | exact (Kd.C_below m0.out (hw_ HB)) | (with_reducible refine Kd.C_alloc ?_ _) | (with_reducible refine Kd.C_drewN ?_ _) | (with_reducible refine Kd.C_drew ?_))); (case a7 => exact m2.out); rintro e w' ⟨rfl, ⟨nd, rfl⟩⟩; refine ⟨_, rfl, ?_⟩))
    go_ret
    exact ⟨re_, hw_ HB⟩
   ·rw [if_neg m8] at H; have n2 : decide (b9 < 0) = false := decide_eq_false m8; clear m8; obtain rfl := Option.some.inj H
    go_enter Try.func42, Try.ntmps42
    go_wp2_with (first | ((with_reducible refine gd_ 2 rfl ?_); refine box_event ?hg (N := 2) ?hd (cs := #[.slice A0_0 l0_0.length c0_0, .slice A0_1 l0_1.length c0_1, .slice A0_2 l0_2.length c0_2]) (t := 72) ?hr ?_; (case hd => rfl); (case hg => rfl); (case hr => exact hr_); intro j1 hg A2 hbox hb; have a4 := mk_ (hbox); have c1 := gb_ hg HB; replace HB := bp_ HB hb; have j2 := c1; clear hb hbox hg; have p7 := bc0_ a4; have p8 := bc1_ a4; have p9 := bc2_ a4; have q0 := bf_ a4 0; have q1 := bf_ a4 1; have q2 := bf_ a4 2) | ((with_reducible refine gc_ 62 rfl ?_); refine gl_ (some 8) rfl Try.func62 #[.slice A0_0 l0_0.length c0_0, .int .i64 a1] ?_; (with_reducible refine (laws_szIntS.calls _ _ l0_0 a1 b3 _ ?a6 ?a7 A3.out).mono ?_); (case a6 => exact cw_ (Kd.C_below h5.out HB.out)); (case a7 => exact h6.out); rintro e w' ⟨rfl, ⟨nd, rfl⟩⟩; refine ⟨_, rfl, ?_⟩) | ((with_reducible refine gc_ 62 rfl ?_); refine gl_ (some 14) rfl Try.func62 #[.slice A0_1 l0_1.length c0_1, .int .i64 b3] ?_; (with_reducible refine (laws_szIntS.calls _ _ l0_1 b3 b5 _ ?a6 ?a7 A7.out).mono ?_); (case a6 => repeat (first | exact (Kd.C_below h8.out (hw_ HB)) | (with_reducible refine Kd.C_alloc ?_ _) | (with_reducible refine Kd.C_drewN ?_ _) | (with_reducible refine Kd.C_drew ?_))); (case a7 => exact h9.out); rintro e w' ⟨rfl, ⟨nd, rfl⟩⟩; refine ⟨_, rfl, ?_⟩) | ((with_reducible refine gc_ 95 rfl ?_); refine gl_ (some 20) rfl Try.func95 #[.slice A0_2 l0_2.length c0_2, .int .i64 b5] ?_; (with_reducible refine (laws_szIntSS.calls k _ _ l0_2 b5 b9 _ ?a6 ?a7 y4.out).mono ?_); (case a6 => repeat (first | exact (Kd.C_below m0.out (hw_ HB)) | (with_reducible refine Kd.C_alloc ?_ _) | (with_reducible refine Kd.C_drewN ?_ _) | (with_reducible refine Kd.C_drew ?_))); (case a7 => exact m2.out); rintro e w' ⟨rfl, ⟨nd, rfl⟩⟩; refine ⟨_, rfl, ?_⟩))
    go_ret
    exact ⟨re_, hw_ HB⟩

/-! ### spec_l1In: function 70 -/
def spec_l1In.f (a0 : Int) (a1 : Int) (a2 : Int) : Option (Bool) := if a0 ≥ a1 then (some (decide (a0 ≤ a2))) else (some false)
set_option maxHeartbeats 8000000 in
set_option maxRecDepth 100000 in
theorem spec_l1In.calls (a0 : Int) (a1 : Int) (a2 : Int) (r : Bool) (w : World) (h : spec_l1In.f a0 a1 a2 = some r) :
  Calls Try.prog 70 #[.int .i64 a0, .int .i64 a1, .int .i64 a2] w fun e w' => e = .returned (.bool r) ∧ Drawn0 w w' := by
 have H : (if a0 ≥ a1 then (some (decide (a0 ≤ a2))) else (some false)) = some r := h
 clear h; by_cases c4 : a0 ≥ a1
 ·rw [if_pos c4] at H; have d1 : decide (a1 ≤ a0) = true := decide_eq_true c4; clear c4; obtain rfl := Option.some.inj H
  go_enter Try.func70, Try.ntmps70
  go_wp2; go_ret
  exact ⟨by first | rfl | (simp; done) | (simp [*]; done), by repeat (first | exact Drawn0.refl _ | apply Drawn0.step)⟩
 ·rw [if_neg c4] at H; have d1 : decide (a1 ≤ a0) = false := decide_eq_false c4; clear c4; obtain rfl := Option.some.inj H
  go_enter Try.func70, Try.ntmps70
  go_wp2; go_ret
  exact ⟨by first | rfl | (simp; done) | (simp [*]; done), by repeat (first | exact Drawn0.refl _ | apply Drawn0.step)⟩

/-! ### spec_l1Low: function 71 -/
def spec_l1Low.l0 : Nat → List Int → Int → Int → Option (Int)
 | 0, _, _, _ => none
 | k + 1, x0, x1, x5 => if (wrap64 (x5 + 2)) < (x0.length : Int) then (if 0 ≤ (wrap64 (x5 + 1)) then (if (wrap64 (x5 + 1)) < (x0.length : Int) then (if (rd x0 (wrap64 (x5 + 1))) ≤ x1 then (spec_l1Low.l0 k x0 x1 (wrap64 (x5 + 1))) else (some x5)) else (none)) else (none)) else (some x5)
def spec_l1Low.f (k : Nat) (l0 : List Int) (a1 : Int) : Option (Int) := spec_l1Low.l0 k l0 a1 0
theorem spec_l1Low.mono_l : ∀ k, (∀ y0 y1 y2, LeO (spec_l1Low.l0 k y0 y1 y2) (spec_l1Low.l0 (k + 1) y0 y1 y2))
 | 0 => fun _ _ _ r h => by simp [spec_l1Low.l0] at h
 | k + 1 => by
  have b8 := spec_l1Low.mono_l k
  ·intro y0 y1 y2
   unfold spec_l1Low.l0
   repeat' first
   | (with_reducible exact b8 _ _ _)
   | (with_reducible exact LeO.refl _)
   | (with_reducible exact LeO.none _)
   | (with_reducible refine LeO.ite ?_ ?_)
   | (with_reducible refine LeO.bind ?_ (fun _ => ?_))
   | exact b8 _ _ _
   | exact LeO.none _
   | refine LeO.ite ?_ ?_
   | refine LeO.bind ?_ (fun _ => ?_)
theorem spec_l1Low.mono : ∀ a0 a1 k, LeO (spec_l1Low.f k a0 a1) (spec_l1Low.f (k + 1) a0 a1) := by
 intro a0 a1 k
 have b8 := spec_l1Low.mono_l k
 unfold spec_l1Low.f
 repeat' first
   | (with_reducible exact b8 _ _ _)
   | (with_reducible exact LeO.refl _)
   | (with_reducible exact LeO.none _)
   | (with_reducible refine LeO.ite ?_ ?_)
   | (with_reducible refine LeO.bind ?_ (fun _ => ?_))
   | exact b8 _ _ _
   | exact LeO.none _
   | refine LeO.ite ?_ ?_
   | refine LeO.bind ?_ (fun _ => ?_)
set_option maxHeartbeats 8000000 in
set_option maxRecDepth 100000 in
theorem spec_l1Low.calls (k : Nat) (A0 : Option Addr) (c0 : Nat) (l0 : List Int) (a1 : Int) (r : Int) (w : World) (hr0 : Kd.C (Kd.int .i64) w A0 l0.length l0) (hc0 : l0.length ≤ c0) (h : spec_l1Low.f k l0 a1 = some r) :
  Calls Try.prog 71 #[.slice A0 l0.length c0, .int .i64 a1] w fun e w' => e = .returned (.int .i64 r) ∧ Drawn0 w w' := by
 have j9 := mk_ hr0; have s4 := mk_ hc0; clear hr0 hc0
 have H : (spec_l1Low.l0 k l0 a1 0) = some r := h
 clear h
 have H' := mk_ H
 clear H
 go_enter Try.func71, Try.ntmps71
 go_wp2
 go_loopg [5] k (fun kq v5 w' => ∃ (a9 : Int), v5 = .int .i64 a9 ∧ Aside0 (spec_l1Low.l0 kq l0 a1 a9 = some r) ∧ Aside0 (kq ≤ k) ∧ Drawn0 w w')
 case atStart => exact ⟨(0), rf_, H', ⟨Nat.le_refl _⟩, by repeat (first | exact Drawn0.refl _ | apply Drawn0.step)⟩
 case round =>
  clear H'
  obtain ⟨a9, rfl, HA, l8, ⟨m1, rfl⟩⟩ := hrel
  cases gk with
  | zero => exact absurd HA.out (by simp [spec_l1Low.l0])
  | succ k1 =>
   have H := HA.out; clear HA
   simp only [spec_l1Low.l0] at H
   by_cases c3 : (wrap64 (a9 + 2)) < (l0.length : Int)
   ·rw [if_pos c3] at H; have g3 : decide ((wrap64 (a9 + 2)) < (l0.length : Int)) = true := decide_eq_true c3; clear c3
    obtain ⟨d5, j3⟩ : ∃ j_ : Int, (wrap64 (a9 + 1)) = j_ := ⟨_, rfl⟩
    replace H : (if 0 ≤ (d5) then (if (d5) < (l0.length : Int) then (if (rd l0 (d5)) ≤ a1 then (spec_l1Low.l0 k1 l0 a1 d5) else (some a9)) else (none)) else (none)) = some r := by first | (rw [j3] at H; exact H) | (simp only [j3] at H ⊢; exact H)
    have hji4w : (IntKind.i64.wrap (a9 + 1)) = d5 := (i64_w _).trans j3
    by_cases c5 : 0 ≤ (d5)
    ·rw [if_pos c5] at H; have d9 : decide (0 ≤ (d5)) = true := decide_eq_true c5; clear c5; by_cases c6 : (d5) < (l0.length : Int)
     ·rw [if_pos c6] at H; have A5 : decide ((d5) < (l0.length : Int)) = true := decide_eq_true c6; clear c6; by_cases c7 : (rd l0 (d5)) ≤ a1
      ·rw [if_pos c7] at H; have h7 : decide ((rd l0 (d5)) ≤ a1) = true := decide_eq_true c7; clear c7
       have H' := mk_ H
       clear H
       have g9 : 0 ≤ ((d5) : Int) := od_
       have h2 : (d5) < (l0.length : Int) := od_
       obtain ⟨n3, m4, l2⟩ := Kd.at_int j9.out (d5) g9 h2; cases m4; replace g9 := eq_true g9; replace h2 := eq_true h2; go_wp2; go_roundg k1
       case measure => have := l8.out; omega
       case rel => exact ⟨(d5), (by first | rfl | (simp; done) | (simp only [← j3] <;> (first | rfl | simp)) | (simp [*]; done)), H', ⟨by have := l8.out; omega⟩, by repeat (first | exact Drawn0.refl _ | apply Drawn0.step)⟩
      ·rw [if_neg c7] at H; have h7 : decide ((rd l0 (d5)) ≤ a1) = false := decide_eq_false c7; clear c7; obtain rfl := Option.some.inj H
       have g9 : 0 ≤ ((d5) : Int) := od_
       have h2 : (d5) < (l0.length : Int) := od_
       obtain ⟨n3, m4, l2⟩ := Kd.at_int j9.out (d5) g9 h2; cases m4; replace g9 := eq_true g9; replace h2 := eq_true h2; go_wp2; go_ret
       exact ⟨by first | rfl | (simp; done) | (simp only [← j3] <;> (first | rfl | simp)) | (simp [*]; done), by repeat (first | exact Drawn0.refl _ | apply Drawn0.step)⟩
     ·rw [if_neg c6] at H
      exact absurd H (by simp)
    ·rw [if_neg c5] at H
     exact absurd H (by simp)
   ·rw [if_neg c3] at H; have g3 : decide ((wrap64 (a9 + 2)) < (l0.length : Int)) = false := decide_eq_false c3; clear c3; obtain rfl := Option.some.inj H; go_wp2; go_ret
    exact ⟨by first | rfl | (simp; done) | (simp [*]; done), by repeat (first | exact Drawn0.refl _ | apply Drawn0.step)⟩

/-! ### spec_l1Abs: function 119 -/
def spec_l1Abs.f (a0 : Int) : Option (Int) := if a0 < 0 then (some (wrap64 (-a0))) else (some a0)
set_option maxHeartbeats 8000000 in
set_option maxRecDepth 100000 in
theorem spec_l1Abs.calls (a0 : Int) (r : Int) (w : World) (h : spec_l1Abs.f a0 = some r) :
  Calls Try.prog 119 #[.int .i64 a0] w fun e w' => e = .returned (.int .i64 r) ∧ Drawn0 w w' := by
 have H : (if a0 < 0 then (some (wrap64 (-a0))) else (some a0)) = some r := h
 clear h; by_cases c2 : a0 < 0
 ·rw [if_pos c2] at H; have t1 : decide (a0 < 0) = true := decide_eq_true c2; clear c2; obtain rfl := Option.some.inj H
  go_enter Try.func119, Try.ntmps119
  go_wp2; go_ret
  exact ⟨by first | rfl | (simp; done) | (simp [*]; done), by repeat (first | exact Drawn0.refl _ | apply Drawn0.step)⟩
 ·rw [if_neg c2] at H; have t1 : decide (a0 < 0) = false := decide_eq_false c2; clear c2; obtain rfl := Option.some.inj H
  go_enter Try.func119, Try.ntmps119
  go_wp2; go_ret
  exact ⟨by first | rfl | (simp; done) | (simp [*]; done), by repeat (first | exact Drawn0.refl _ | apply Drawn0.step)⟩

/-! ### spec_l1Frac: function 75 -/
mutual
def spec_l1Frac.j0 : Nat → Int → Int → Option (Int × Int)
 | 0, _, _ => none
 | k + 1, x0, x1 => (spec_l1Abs.f x0).bind fun j4 => (spec_l1Frac.l0 k x0 x1 j4 x1)
def spec_l1Frac.l0 : Nat → Int → Int → Int → Int → Option (Int × Int)
 | 0, _, _, _, _ => none
 | k + 1, x0, x1, x5, x6 => if x6 = 0 then (if x5 = 0 then (none) else (some (wrap64 (Int.tdiv x0 x5), wrap64 (Int.tdiv x1 x5)))) else (spec_l1Frac.l0 k x0 x1 x6 (Int.tmod x5 x6))
end
def spec_l1Frac.f (k : Nat) (a0 : Int) (a1 : Int) : Option (Int × Int) := if a1 < 0 then (spec_l1Frac.j0 k (wrap64 (-a0)) (wrap64 (-a1))) else (spec_l1Frac.j0 k a0 a1)
theorem spec_l1Frac.mono_l : ∀ k, (∀ y0 y1, LeO (spec_l1Frac.j0 k y0 y1) (spec_l1Frac.j0 (k + 1) y0 y1)) ∧ (∀ y0 y1 y2 y3, LeO (spec_l1Frac.l0 k y0 y1 y2 y3) (spec_l1Frac.l0 (k + 1) y0 y1 y2 y3))
 | 0 => ⟨fun _ _ r h => by simp [spec_l1Frac.j0] at h, fun _ _ _ _ r h => by simp [spec_l1Frac.l0] at h⟩
 | k + 1 => by
  obtain ⟨b8, m5⟩ := spec_l1Frac.mono_l k
  refine ⟨?_, ?_⟩
  ·intro y0 y1
   unfold spec_l1Frac.j0
   repeat' first
   | (with_reducible exact b8 _ _)
   | (with_reducible exact m5 _ _ _ _)
   | (with_reducible exact LeO.refl _)
   | (with_reducible exact LeO.none _)
   | (with_reducible refine LeO.ite ?_ ?_)
   | (with_reducible refine LeO.bind ?_ (fun _ => ?_))
   | exact b8 _ _
   | exact m5 _ _ _ _
   | exact LeO.none _
   | refine LeO.ite ?_ ?_
   | refine LeO.bind ?_ (fun _ => ?_)
  ·intro y0 y1 y2 y3
   unfold spec_l1Frac.l0
   repeat' first
   | (with_reducible exact b8 _ _)
   | (with_reducible exact m5 _ _ _ _)
   | (with_reducible exact LeO.refl _)
   | (with_reducible exact LeO.none _)
   | (with_reducible refine LeO.ite ?_ ?_)
   | (with_reducible refine LeO.bind ?_ (fun _ => ?_))
   | exact b8 _ _
   | exact m5 _ _ _ _
   | exact LeO.none _
   | refine LeO.ite ?_ ?_
   | refine LeO.bind ?_ (fun _ => ?_)
theorem spec_l1Frac.mono : ∀ a0 a1 k, LeO (spec_l1Frac.f k a0 a1) (spec_l1Frac.f (k + 1) a0 a1) := by
 intro a0 a1 k
 obtain ⟨b8, m5⟩ := spec_l1Frac.mono_l k
 unfold spec_l1Frac.f
 repeat' first
   | (with_reducible exact b8 _ _)
   | (with_reducible exact m5 _ _ _ _)
   | (with_reducible exact LeO.refl _)
   | (with_reducible exact LeO.none _)
   | (with_reducible refine LeO.ite ?_ ?_)
   | (with_reducible refine LeO.bind ?_ (fun _ => ?_))
   | exact b8 _ _
   | exact m5 _ _ _ _
   | exact LeO.none _
   | refine LeO.ite ?_ ?_
   | refine LeO.bind ?_ (fun _ => ?_)
def spec_l1Frac.T9 : Bool × List (List Nat × List Nat) := (true, [([], []), ([], []), ([0, 1], [0, 1]), ([], []), ([], []), ([3, 4], [3, 4]), ([2, 5], [2, 5]), ([6, 0, 1, 2, 3, 4, 5, 6], [6])])
def spec_l1Frac.B9 : List Nat := [0, 0, 3, 0, 0, 24, 63, 127]
theorem spec_l1Frac.tab9 : rtab .any (opsOf Try.f75 9) = spec_l1Frac.T9 := by kernel_rfl
theorem spec_l1Frac.bits9 : waitsOk spec_l1Frac.T9.2 spec_l1Frac.B9 = true := by kernel_rfl
set_option maxHeartbeats 8000000 in
set_option maxRecDepth 100000 in
theorem spec_l1Frac.calls (k : Nat) (a0 : Int) (a1 : Int) (r1 : Int) (r2 : Int) (w : World) (h : spec_l1Frac.f k a0 a1 = some (r1, r2)) :
  Calls Try.prog 75 #[.int .i64 a0, .int .i64 a1] w fun e w' => e = .returned (.agg #[.int .i64 r1, .int .i64 r2]) ∧ Below w.heap.size w w' := by
 have q3 := Try.underlying48
 have HB := mk_ (Below.refl w.heap.size w)
 have H : (if a1 < 0 then (spec_l1Frac.j0 k (wrap64 (-a0)) (wrap64 (-a1))) else (spec_l1Frac.j0 k a0 a1)) = some (r1, r2) := h
 clear h; have t2 := mk_ H; clear H
 go_enter Try.func75, Try.ntmps75
 go_upto_if 9 with (first | ((with_reducible refine gd_ 4 rfl ?_); refine box_event ?hg (N := 4) ?hd (cs := #[.int .i64 0, .int .i64 0]) (t := 48) ?hr ?_; (case hd => rfl); (case hg => rfl); (case hr => exact hr_); intro g1 hg w4 hbox hb; have b1 := mk_ (hbox); have n4 := gb_ hg HB; replace HB := bp_ HB hb; have n5 := n4; clear hb hbox hg))
 (try simp only [Act.put, List.setIfInBounds_toArray, List.set_cons_zero, List.set_cons_succ])
 go_cut [0, 1] (fun v0 v1 wc => ∃ (kq : Nat) (d6 : Int) (g2 : Int), v0 = .int .i64 d6 ∧ v1 = .int .i64 g2 ∧ Aside0 (spec_l1Frac.j0 kq d6 g2 = some (r1, r2)) ∧ Aside0 (kq ≤ k) ∧ Aside0 (wc.heap[g1]? = some (.cells #[.int .i64 0, .int .i64 0] 48 (0, 0))) ∧ Aside0 (Below w.heap.size w wc))
 case first =>
  have H := t2.out; clear t2; by_cases c5 : a1 < 0
  ·rw [if_pos c5] at H; have d9 : decide (a1 < 0) = true := decide_eq_true c5; clear c5
   (first | rw [d9] | (simp only [i64_w, i32_w]; rw [d9]) | skip)
   have H' := mk_ H
   clear H; go_wp2; go_meet
   case rel => exact ⟨_, (wrap64 (-a0)), (wrap64 (-a1)), rf_, rf_, H', ⟨by first | omega | exact Nat.le_refl _⟩, bw_ b1, ⟨hw_ HB⟩⟩
  ·rw [if_neg c5] at H; have d9 : decide (a1 < 0) = false := decide_eq_false c5; clear c5
   (first | rw [d9] | (simp only [i64_w, i32_w]; rw [d9]) | skip)
   have H' := mk_ H
   clear H; go_wp2; go_meet
   case rel => exact ⟨_, (a0), (a1), rf_, rf_, H', ⟨by first | omega | exact Nat.le_refl _⟩, bw_ b1, ⟨hw_ HB⟩⟩
 case rest =>
  clear t2
  obtain ⟨kq, d6, g2, rfl, rfl, HA, y5, b1, HB⟩ := hcut
  cases kq with
  | zero => exact absurd HA.out (by simp [spec_l1Frac.j0])
  | succ kj2 =>
   have H := HA.out; clear HA
   simp only [spec_l1Frac.j0] at H
   replace H := Option.bind_eq_some_iff.mp H; obtain ⟨j4, l9, H⟩ := H
   replace H : (spec_l1Frac.l0 kj2 d6 g2 j4 g2) = some (r1, r2) := H
   have A6 := mk_ l9; clear l9
   have H' := mk_ H
   clear H
   go_wp2_with (first | ((with_reducible refine gc_ 119 rfl ?_); refine gl_ (some 15) rfl Try.func119 #[.int .i64 d6] ?_; (with_reducible refine (spec_l1Abs.calls d6 j4 _ A6.out).mono ?_); rintro e w' ⟨rfl, ⟨nd, rfl⟩⟩; refine ⟨_, rfl, ?_⟩))
   go_loopg [5, 6] kj2 (fun kq v5 v6 w' => ∃ (c9 : Int) (d0 : Int), v5 = .int .i64 c9 ∧ v6 = .int .i64 d0 ∧ Aside0 (spec_l1Frac.l0 kq d6 g2 c9 d0 = some (r1, r2)) ∧ Aside0 (kq ≤ kj2) ∧ Aside0 (w'.heap[g1]? = some (.cells #[.int .i64 0, .int .i64 0] 48 (0, 0))) ∧ Aside0 (Below w.heap.size w w'))
   case atStart => exact ⟨(j4), (g2), rf_, rf_, H', ⟨Nat.le_refl _⟩, bw_ b1, ⟨hw_ HB⟩⟩
   case round =>
    clear H'
    obtain ⟨c9, d0, rfl, rfl, HA, y6, b1, HB⟩ := hrel
    cases gk with
    | zero => exact absurd HA.out (by simp [spec_l1Frac.l0])
    | succ k2 =>
     have H := HA.out; clear HA
     simp only [spec_l1Frac.l0] at H
     by_cases c7 : d0 = 0
     ·rw [if_pos c7] at H; have h7 : (d0 == 0) = true := beq_iff_eq.mpr c7; have t3 : (d0 != 0) = false := bne_eq_false_iff_eq.mpr c7; clear c7; by_cases c8 : c9 = 0
      ·rw [if_pos c8] at H
       exact absurd H (by simp)
      ·rw [if_neg c8] at H; have n0 : (c9 == 0) = false := beq_eq_false_iff_ne.mpr c8; have A8 : (c9 != 0) = true := bne_iff_ne.mpr c8
       simp only [Option.some.injEq, Prod.mk.injEq] at H
       obtain ⟨rfl, rfl⟩ := H
       try go_wp2
       replace b1 := dB_ b1; replace HB := dH_ HB
       refine start_ (n := 8) (S := fun w' => True) (ds := []) (bs_ 8 0) (by kernel_rfl) rfl rfl trivial (fun hHeld => ?_); refine with_tabW spec_l1Frac.tab9 spec_l1Frac.bits9 (fun HT_ HW_ => ?_)
       generalize wr.drew = w9 at b1 HB hHeld ⊢
       refine pu_ HT_ 0 24 (bs_ 8 1) ?_; refine pu_ HT_ 1 25 (bs_ 8 3) ?_; refine pu_ HT_ 2 26 (bs_ 8 7) ?_; refine pu_ HT_ 3 27 (bs_ 8 15) ?_; refine pu_ HT_ 4 28 (bs_ 8 31) ?_; refine pu_ HT_ 5 29 (bs_ 8 63) ?_; refine pu_ HT_ 6 30 (bs_ 8 127) ?_
       refine one_ (i := 7) (N := none) (bs_ 8 255) rfl rfl (one_of HT_.out (by kernel_rfl)) (by decide) (fun K hK => ?_)
       have A9 : w9.cell? ⟨g1, 0, none⟩ = some (.int .i64 0) := bc0_ b1
       have y7 := blk_frozen b1.out 0
       have B0 : w9.cell? ⟨g1, 1, none⟩ = some (.int .i64 0) := bc1_ b1
       have y8 := blk_frozen b1.out 1
       refine skip_ (w1 := ?_) (by rfl) rfl ?_ ?_
       rotate_left
       ·go_simp
        rfl
       refine hK.out _ _ trivial (fun hHeld => ?_)
       clear hK K
       refine done_ (done_of HT_.out (by kernel_rfl)) ?_
       try go_wp2
       refine bodyPost_ret (results_cell_row rfl _ _ g1 48 #[.int .i64 (wrap64 (Int.tdiv d6 c9)), .int .i64 (wrap64 (Int.tdiv g2 c9))] (0, 0) _ rfl (by (with_reducible repeat (first | refine blk_drewN ?_ _ | refine blk_drew ?_ | refine blk_alloc ?_ _)); refine blk_put (cs := #[.int .i64 (wrap64 (Int.tdiv d6 c9)), .int .i64 0]) ?_ 1 _ rfl; (with_reducible repeat (first | refine blk_drewN ?_ _ | refine blk_drew ?_ | refine blk_alloc ?_ _)); refine blk_put (cs := #[.int .i64 0, .int .i64 0]) ?_ 0 _ rfl; (with_reducible repeat (first | refine blk_drewN ?_ _ | refine blk_drew ?_ | refine blk_alloc ?_ _)); exact b1.out) Try.underlying48 rfl (by kernel_rfl)) rfl ?_
       exact ⟨re_, by repeat (first | (with_reducible first | exact HB.out | apply below_alloc | apply pw_below_drewN | apply below_drew1 | refine below_set ?_ n5.out) | exact HB.out)⟩
     ·rw [if_neg c7] at H; have h7 : (d0 == 0) = false := beq_eq_false_iff_ne.mpr c7; have t3 : (d0 != 0) = true := bne_iff_ne.mpr c7
      have H' := mk_ H
      clear H; go_wp2; go_roundg k2
      case measure => have := y5.out; have := y6.out; omega
      case rel => exact ⟨(d0), (Int.tmod c9 d0), rf_, rf_, H', ⟨by have := y5.out; have := y6.out; omega⟩, bw_ b1, ⟨hw_ HB⟩⟩

/-! ### spec_l1All: function 103 -/
def spec_l1All.l0 : Nat → List Int → Int → Int → Int → Option (Bool)
 | 0, _, _, _, _ => none
 | k + 1, x0, x1, x2, x7 => if x7 < (x0.length : Int) then (if 0 ≤ x7 then ((spec_l1In.f (rd x0 x7) x1 x2).bind fun m6 => (if m6 = true then (spec_l1All.l0 k x0 x1 x2 (wrap64 (x7 + 1))) else (some false))) else (none)) else (some true)
def spec_l1All.f (k : Nat) (l0 : List Int) (a1 : Int) (a2 : Int) : Option (Bool) := spec_l1All.l0 k l0 a1 a2 0
theorem spec_l1All.mono_l : ∀ k, (∀ y0 y1 y2 y3, LeO (spec_l1All.l0 k y0 y1 y2 y3) (spec_l1All.l0 (k + 1) y0 y1 y2 y3))
 | 0 => fun _ _ _ _ r h => by simp [spec_l1All.l0] at h
 | k + 1 => by
  have b8 := spec_l1All.mono_l k
  ·intro y0 y1 y2 y3
   unfold spec_l1All.l0
   repeat' first
   | (with_reducible exact b8 _ _ _ _)
   | (with_reducible exact LeO.refl _)
   | (with_reducible exact LeO.none _)
   | (with_reducible refine LeO.ite ?_ ?_)
   | (with_reducible refine LeO.bind ?_ (fun _ => ?_))
   | exact b8 _ _ _ _
   | exact LeO.none _
   | refine LeO.ite ?_ ?_
   | refine LeO.bind ?_ (fun _ => ?_)
theorem spec_l1All.mono : ∀ a0 a1 a2 k, LeO (spec_l1All.f k a0 a1 a2) (spec_l1All.f (k + 1) a0 a1 a2) := by
 intro a0 a1 a2 k
 have b8 := spec_l1All.mono_l k
 unfold spec_l1All.f
 repeat' first
   | (with_reducible exact b8 _ _ _ _)
   | (with_reducible exact LeO.refl _)
   | (with_reducible exact LeO.none _)
   | (with_reducible refine LeO.ite ?_ ?_)
   | (with_reducible refine LeO.bind ?_ (fun _ => ?_))
   | exact b8 _ _ _ _
   | exact LeO.none _
   | refine LeO.ite ?_ ?_
   | refine LeO.bind ?_ (fun _ => ?_)
set_option maxHeartbeats 8000000 in
set_option maxRecDepth 100000 in
theorem spec_l1All.calls (k : Nat) (A0 : Option Addr) (c0 : Nat) (l0 : List Int) (a1 : Int) (a2 : Int) (r : Bool) (w : World) (hr0 : Kd.C (Kd.int .i64) w A0 l0.length l0) (hc0 : l0.length ≤ c0) (h : spec_l1All.f k l0 a1 a2 = some r) :
  Calls Try.prog 103 #[.slice A0 l0.length c0, .int .i64 a1, .int .i64 a2] w fun e w' => e = .returned (.bool r) ∧ Drawn0 w w' := by
 have j9 := mk_ hr0; have s4 := mk_ hc0; clear hr0 hc0
 have H : (spec_l1All.l0 k l0 a1 a2 0) = some r := h
 clear h
 have H' := mk_ H
 clear H
 go_enter Try.func103, Try.ntmps103
 go_wp2
 go_loopg [7] k (fun kq v7 w' => ∃ (b4 : Int), v7 = .int .i64 b4 ∧ Aside0 (spec_l1All.l0 kq l0 a1 a2 b4 = some r) ∧ Aside0 (kq ≤ k) ∧ Drawn0 w w')
 case atStart => exact ⟨(0), rf_, H', ⟨Nat.le_refl _⟩, by repeat (first | exact Drawn0.refl _ | apply Drawn0.step)⟩
 case round =>
  clear H'
  obtain ⟨b4, rfl, HA, l8, ⟨m1, rfl⟩⟩ := hrel
  cases gk with
  | zero => exact absurd HA.out (by simp [spec_l1All.l0])
  | succ k1 =>
   have H := HA.out; clear HA
   simp only [spec_l1All.l0] at H
   by_cases c4 : b4 < (l0.length : Int)
   ·rw [if_pos c4] at H; have d1 : decide (b4 < (l0.length : Int)) = true := decide_eq_true c4; clear c4; by_cases c5 : 0 ≤ b4
    ·rw [if_pos c5] at H; have d9 : decide (0 ≤ b4) = true := decide_eq_true c5; clear c5; replace H := Option.bind_eq_some_iff.mp H; obtain ⟨m6, l9, H⟩ := H; (try dsimp only at H); have A6 := mk_ l9; clear l9; by_cases c7 : m6 = true
     ·subst c7; rw [if_pos rfl] at H
      have H' := mk_ H
      clear H
      have h3 : 0 ≤ (b4 : Int) := od_
      have h4 : b4 < (l0.length : Int) := od_
      obtain ⟨n6, m7, l3⟩ := Kd.at_int j9.out b4 h3 h4; cases m7; replace h3 := eq_true h3; replace h4 := eq_true h4
      go_wp2_with (first | ((with_reducible refine gc_ 70 rfl ?_); refine gl_ (some 20) rfl Try.func70 #[.int .i64 (rd l0 b4), .int .i64 a1, .int .i64 a2] ?_; (with_reducible refine (spec_l1In.calls (rd l0 b4) a1 a2 true _ A6.out).mono ?_); rintro e w' ⟨rfl, ⟨nd, rfl⟩⟩; refine ⟨_, rfl, ?_⟩))
      go_roundg k1
      case measure => have := l8.out; omega
      case rel => exact ⟨(wrap64 (b4 + 1)), rf_, H', ⟨by have := l8.out; omega⟩, by repeat (first | exact Drawn0.refl _ | apply Drawn0.step)⟩
     ·replace c7 := Bool.eq_false_iff.mpr c7; subst c7; rw [if_neg (show ¬ (false = true) by decide)] at H; obtain rfl := Option.some.inj H
      have h3 : 0 ≤ (b4 : Int) := od_
      have h4 : b4 < (l0.length : Int) := od_
      obtain ⟨n6, m7, l3⟩ := Kd.at_int j9.out b4 h3 h4; cases m7; replace h3 := eq_true h3; replace h4 := eq_true h4
      go_wp2_with (first | ((with_reducible refine gc_ 70 rfl ?_); refine gl_ (some 20) rfl Try.func70 #[.int .i64 (rd l0 b4), .int .i64 a1, .int .i64 a2] ?_; (with_reducible refine (spec_l1In.calls (rd l0 b4) a1 a2 false _ A6.out).mono ?_); rintro e w' ⟨rfl, ⟨nd, rfl⟩⟩; refine ⟨_, rfl, ?_⟩))
      go_ret
      exact ⟨by first | rfl | (simp; done) | (simp [*]; done), by repeat (first | exact Drawn0.refl _ | apply Drawn0.step)⟩
    ·rw [if_neg c5] at H
     exact absurd H (by simp)
   ·rw [if_neg c4] at H; have d1 : decide (b4 < (l0.length : Int)) = false := decide_eq_false c4; clear c4; obtain rfl := Option.some.inj H; go_wp2; go_ret
    exact ⟨by first | rfl | (simp; done) | (simp [*]; done), by repeat (first | exact Drawn0.refl _ | apply Drawn0.step)⟩

end Go.Proofs.Ytnphbpkpjinddaa.QFnExactAtGrid
-- squeezed
