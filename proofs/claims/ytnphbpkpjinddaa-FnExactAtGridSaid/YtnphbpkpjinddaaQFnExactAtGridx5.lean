/- Lean functions that tell what the Go functions used by one law answer, and for each a proof that the Go code comes to just these answers; no condition. Printed by this session's own program over the kit's printer. -/
import Derived.Test.YtnphbpkpjinddaaWSq
import Derived.Test.YtnphbpkpjinddaaQFnExactAtGridx0
import Derived.Test.YtnphbpkpjinddaaQFnExactAtGridx4
namespace Go.Proofs.Ytnphbpkpjinddaa.QFnExactAtGrid
open Go.RowKit Go.Proofs.YtnphbpkpjinddaaW.PrintWords Go.Proofs.YtnphbpkpjinddaaW.PrintLast Go.Proofs.YtnphbpkpjinddaaW.PrintMore
attribute [local go_sem] max2_int min2_int max_two min_two max_three min_three max_four min_four   -- for this text's walks alone
attribute [local go_sem high] go_eql go_neq go_lss go_leq go_gtr go_geq go_store   -- for this text's walks alone
set_option linter.unusedVariables false
set_option linter.unusedSimpArgs false

/-! ### impl_allIn: function 85 -/
def impl_allIn.l0 : Nat → Int → Int → List Int → Int → Int → Option (Bool)
 | 0, _, _, _, _, _ => none
 | k + 1, x1, x2, x9, q8, g6 => if g6 < q8 then (if 0 ≤ g6 then (if g6 < (x9.length : Int) then ((impl_in.f (rd x9 g6) x1 x2).bind fun d7 => (if d7 = true then (impl_allIn.l0 k x1 x2 x9 q8 (wrap64 (g6 + 1))) else (some false))) else (none)) else (none)) else (some true)
def impl_allIn.f (k : Nat) (l0 : List Int) (a1 : Int) (a2 : Int) : Option (Bool) := impl_allIn.l0 k a1 a2 l0 (l0.length : Int) 0
theorem impl_allIn.mono_l : ∀ k, (∀ y0 y1 y2 y3 y4, LeO (impl_allIn.l0 k y0 y1 y2 y3 y4) (impl_allIn.l0 (k + 1) y0 y1 y2 y3 y4))
 | 0 => fun _ _ _ _ _ r h => by simp [impl_allIn.l0] at h
 | k + 1 => by
  have c1 := impl_allIn.mono_l k
  ·intro y0 y1 y2 y3 y4
   unfold impl_allIn.l0
   repeat' first
   | (with_reducible exact c1 _ _ _ _ _)
   | (with_reducible exact LeO.refl _)
   | (with_reducible exact LeO.none _)
   | (with_reducible refine LeO.ite ?_ ?_)
   | (with_reducible refine LeO.bind ?_ (fun _ => ?_))
   | exact c1 _ _ _ _ _
   | exact LeO.none _
   | refine LeO.ite ?_ ?_
   | refine LeO.bind ?_ (fun _ => ?_)
theorem impl_allIn.mono : ∀ a0 a1 a2 k, LeO (impl_allIn.f k a0 a1 a2) (impl_allIn.f (k + 1) a0 a1 a2) := by
 intro a0 a1 a2 k
 have c1 := impl_allIn.mono_l k
 unfold impl_allIn.f
 repeat' first
   | (with_reducible exact c1 _ _ _ _ _)
   | (with_reducible exact LeO.refl _)
   | (with_reducible exact LeO.none _)
   | (with_reducible refine LeO.ite ?_ ?_)
   | (with_reducible refine LeO.bind ?_ (fun _ => ?_))
   | exact c1 _ _ _ _ _
   | exact LeO.none _
   | refine LeO.ite ?_ ?_
   | refine LeO.bind ?_ (fun _ => ?_)
set_option maxHeartbeats 8000000 in
set_option maxRecDepth 100000 in
theorem impl_allIn.calls (k : Nat) (A0 : Option Addr) (c0 : Nat) (l0 : List Int) (a1 : Int) (a2 : Int) (r : Bool) (w : World) (hr0 : Kd.C (Kd.int .i64) w A0 l0.length l0) (hc0 : l0.length ≤ c0) (h : impl_allIn.f k l0 a1 a2 = some r) :
  Calls Try.prog 85 #[.slice A0 l0.length c0, .int .i64 a1, .int .i64 a2] w fun e w' => e = .returned (.bool r) ∧ Drawn0 w w' := by
 have q9 := mk_ hr0; have s7 := mk_ hc0; clear hr0 hc0
 have H : (impl_allIn.l0 k a1 a2 l0 (l0.length : Int) 0) = some r := h
 clear h
 have H' := mk_ H
 clear H
 go_enter Try.func85, Try.ntmps85
 go_wp2
 go_loopg [11] k (fun kq v11 w' => ∃ (a4 : Int), v11 = .int .i64 a4 ∧ Aside0 (impl_allIn.l0 kq a1 a2 l0 (l0.length : Int) a4 = some r) ∧ Aside0 (kq ≤ k) ∧ Drawn0 w w')
 case atStart => exact ⟨(0), rf_, H', ⟨Nat.le_refl _⟩, by repeat (first | exact Drawn0.refl _ | apply Drawn0.step)⟩
 case round =>
  clear H'
  obtain ⟨a4, rfl, HA, g7, ⟨m1, rfl⟩⟩ := hrel
  cases gk with
  | zero => exact absurd HA.out (by simp [impl_allIn.l0])
  | succ k1 =>
   have H := HA.out; clear HA
   simp only [impl_allIn.l0] at H
   by_cases c4 : a4 < (l0.length : Int)
   ·rw [if_pos c4] at H; have d8 : decide (a4 < (l0.length : Int)) = true := decide_eq_true c4; clear c4; by_cases c5 : 0 ≤ a4
    ·rw [if_pos c5] at H; have p7 : decide (0 ≤ a4) = true := decide_eq_true c5; clear c5; by_cases c6 : a4 < (l0.length : Int)
     ·rw [if_pos c6] at H; have p8 : decide (a4 < (l0.length : Int)) = true := decide_eq_true c6; clear c6; replace H := Option.bind_eq_some_iff.mp H; obtain ⟨d7, s0, H⟩ := H; (try dsimp only at H); have A7 := mk_ s0; clear s0; by_cases c8 : d7 = true
      ·subst c8; rw [if_pos rfl] at H
       have H' := mk_ H
       clear H
       have b7 : 0 ≤ (a4 : Int) := od_
       have b8 : a4 < (l0.length : Int) := od_
       obtain ⟨g8, d9, d3⟩ := Kd.at_int q9.out a4 b7 b8; cases d9; replace b7 := eq_true b7; replace b8 := eq_true b8
       go_wp2_with (first | ((with_reducible refine gc_ 76 rfl ?_); refine gl_ (some 18) rfl Try.func76 #[.int .i64 (rd l0 a4), .int .i64 a1, .int .i64 a2] ?_; (with_reducible refine (impl_in.calls (rd l0 a4) a1 a2 true _ A7.out).mono ?_); rintro e w' ⟨rfl, ⟨nd, rfl⟩⟩; refine ⟨_, rfl, ?_⟩))
       go_roundg k1
       case measure => have := g7.out; omega
       case rel => exact ⟨(wrap64 (a4 + 1)), rf_, H', ⟨by have := g7.out; omega⟩, by repeat (first | exact Drawn0.refl _ | apply Drawn0.step)⟩
      ·replace c8 := Bool.eq_false_iff.mpr c8; subst c8; rw [if_neg (show ¬ (false = true) by decide)] at H; obtain rfl := Option.some.inj H
       have b7 : 0 ≤ (a4 : Int) := od_
       have b8 : a4 < (l0.length : Int) := od_
       obtain ⟨g8, d9, d3⟩ := Kd.at_int q9.out a4 b7 b8; cases d9; replace b7 := eq_true b7; replace b8 := eq_true b8
       go_wp2_with (first | ((with_reducible refine gc_ 76 rfl ?_); refine gl_ (some 18) rfl Try.func76 #[.int .i64 (rd l0 a4), .int .i64 a1, .int .i64 a2] ?_; (with_reducible refine (impl_in.calls (rd l0 a4) a1 a2 false _ A7.out).mono ?_); rintro e w' ⟨rfl, ⟨nd, rfl⟩⟩; refine ⟨_, rfl, ?_⟩))
       go_ret
       exact ⟨by first | rfl | (simp; done) | (simp [*]; done), by repeat (first | exact Drawn0.refl _ | apply Drawn0.step)⟩
     ·rw [if_neg c6] at H
      exact absurd H (by simp)
    ·rw [if_neg c5] at H
     exact absurd H (by simp)
   ·rw [if_neg c4] at H; have d8 : decide (a4 < (l0.length : Int)) = false := decide_eq_false c4; clear c4; obtain rfl := Option.some.inj H; go_wp2; go_ret
    exact ⟨by first | rfl | (simp; done) | (simp [*]; done), by repeat (first | exact Drawn0.refl _ | apply Drawn0.step)⟩

/-! ### impl_GridOk: function 98 -/
def impl_GridOk.l0 : Nat → List (List Int) → Int → Int → List Int → List Int → List (List Int) → Option (Bool)
 | 0, _, _, _, _, _, _ => none
 | k + 1, x6, x7, x8, b1, b2, b9 => if x8 < x7 then (if 0 ≤ x8 then (if x8 < (x6.length : Int) then (if ((rd_L1 x6 x8).length : Int) = (b1.length : Int) then ((impl_allIn.f k (rd_L1 x6 x8) (-1000) 1000).bind fun g1 => (if g1 = true then (impl_GridOk.l0 k x6 x7 (wrap64 (x8 + 1)) b1 b2 b9) else (some false))) else (some false)) else (none)) else (none)) else ((impl_in.f (b1.length : Int) 2 20).bind fun g2 => (if g2 = true then ((impl_in.f (b2.length : Int) 2 20).bind fun g3 => (if g3 = true then (if (b9.length : Int) = (b2.length : Int) then ((impl_ascends.f k b1 (-1000) 1000).bind fun g4 => (if g4 = true then ((impl_ascends.f k b2 (-1000) 1000).bind fun g5 => (some g5)) else (some false))) else (some false)) else (some false))) else (some false)))
def impl_GridOk.f (k : Nat) (l0_0 : List Int) (l0_1 : List Int) (l0_2 : List (List Int)) : Option (Bool) := impl_GridOk.l0 k l0_2 (l0_2.length : Int) 0 l0_0 l0_1 l0_2
theorem impl_GridOk.mono_l : ∀ k, (∀ y0 y1 y2 y3 y4 y5, LeO (impl_GridOk.l0 k y0 y1 y2 y3 y4 y5) (impl_GridOk.l0 (k + 1) y0 y1 y2 y3 y4 y5))
 | 0 => fun _ _ _ _ _ _ r h => by simp [impl_GridOk.l0] at h
 | k + 1 => by
  have c1 := impl_GridOk.mono_l k
  ·intro y0 y1 y2 y3 y4 y5
   unfold impl_GridOk.l0
   repeat' first
   | (with_reducible exact c1 _ _ _ _ _ _)
   | (with_reducible exact impl_allIn.mono _ _ _ _)
   | (with_reducible exact impl_ascends.mono _ _ _ _)
   | (with_reducible exact LeO.refl _)
   | (with_reducible exact LeO.none _)
   | (with_reducible refine LeO.ite ?_ ?_)
   | (with_reducible refine LeO.bind ?_ (fun _ => ?_))
   | exact c1 _ _ _ _ _ _
   | exact impl_allIn.mono _ _ _ _
   | exact impl_ascends.mono _ _ _ _
   | exact LeO.none _
   | refine LeO.ite ?_ ?_
   | refine LeO.bind ?_ (fun _ => ?_)
theorem impl_GridOk.mono : ∀ a0 a1 a2 k, LeO (impl_GridOk.f k a0 a1 a2) (impl_GridOk.f (k + 1) a0 a1 a2) := by
 intro a0 a1 a2 k
 have c1 := impl_GridOk.mono_l k
 unfold impl_GridOk.f
 repeat' first
   | (with_reducible exact c1 _ _ _ _ _ _)
   | (with_reducible exact impl_allIn.mono _ _ _ _)
   | (with_reducible exact impl_ascends.mono _ _ _ _)
   | (with_reducible exact LeO.refl _)
   | (with_reducible exact LeO.none _)
   | (with_reducible refine LeO.ite ?_ ?_)
   | (with_reducible refine LeO.bind ?_ (fun _ => ?_))
   | exact c1 _ _ _ _ _ _
   | exact impl_allIn.mono _ _ _ _
   | exact impl_ascends.mono _ _ _ _
   | exact LeO.none _
   | refine LeO.ite ?_ ?_
   | refine LeO.bind ?_ (fun _ => ?_)
set_option maxHeartbeats 8000000 in
set_option maxRecDepth 100000 in
theorem impl_GridOk.calls (k : Nat) (A0_0 : Option Addr) (c0_0 : Nat) (l0_0 : List Int) (A0_1 : Option Addr) (c0_1 : Nat) (l0_1 : List Int) (A0_2 : Option Addr) (c0_2 : Nat) (l0_2 : List (List Int)) (r : Bool) (w : World) (hr0_0 : Kd.C (Kd.int .i64) w A0_0 l0_0.length l0_0) (hc0_0 : l0_0.length ≤ c0_0) (hr0_1 : Kd.C (Kd.int .i64) w A0_1 l0_1.length l0_1) (hc0_1 : l0_1.length ≤ c0_1) (hr0_2 : Kd.C (Kd.slice 3 (Kd.int .i64)) w A0_2 l0_2.length l0_2) (hc0_2 : l0_2.length ≤ c0_2) (h : impl_GridOk.f k l0_0 l0_1 l0_2 = some r) :
  Calls Try.prog 98 #[.agg #[.slice A0_0 l0_0.length c0_0, .slice A0_1 l0_1.length c0_1, .slice A0_2 l0_2.length c0_2]] w fun e w' => e = .returned (.bool r) ∧ Below w.heap.size w w' := by
 have s5 := Try.underlying75
 have d4 := mk_ hr0_0; have d5 := mk_ hc0_0; clear hr0_0 hc0_0; have g9 := mk_ hr0_1; have h2 := mk_ hc0_1; clear hr0_1 hc0_1; have c2 := mk_ hr0_2; have s1 := mk_ hc0_2; clear hr0_2 hc0_2; have HB := mk_ (Below.refl w.heap.size w)
 have H : (impl_GridOk.l0 k l0_2 (l0_2.length : Int) 0 l0_0 l0_1 l0_2) = some r := h
 clear h
 have H' := mk_ H
 clear H
 go_enter Try.func98, Try.ntmps98
 go_wp2_with (first | ((with_reducible refine gd_ 1 rfl ?_); (try (refine gate_guard (by rfl) ?_; dsimp only)); refine box_event ?hg (N := 1) ?hd (cs := #[.slice A0_0 l0_0.length c0_0, .slice A0_1 l0_1.length c0_1, .slice A0_2 l0_2.length c0_2]) (t := 75) ?hr ?_; (case hd => rfl); (case hg => rfl); (case hr => exact hr_); intro h3 hg w2 hbox hb; have a3 := mk_ (hbox); have h4 := gb_ hg HB; replace HB := bp_ HB hb; have s2 := h4; clear hb hbox hg; have p9 := bc0_ a3; have q0 := bc1_ a3; have q1 := bc2_ a3; have q2 := bf_ a3 0; have q3 := bf_ a3 1; have q4 := bf_ a3 2))
 go_loopg [8] k (fun kq v8 w' => ∃ (a5 : Int), v8 = .int .i64 a5 ∧ Aside0 (impl_GridOk.l0 kq l0_2 (l0_2.length : Int) a5 l0_0 l0_1 l0_2 = some r) ∧ Aside0 (kq ≤ k) ∧ Aside0 (w'.heap[h3]? = some (.cells #[(.slice A0_0 l0_0.length c0_0), (.slice A0_1 l0_1.length c0_1), (.slice A0_2 l0_2.length c0_2)] 75 (0, 0))) ∧ Aside0 (Below w.heap.size w w'))
 case atStart => exact ⟨(0), rf_, H', ⟨Nat.le_refl _⟩, bw_ a3, ⟨hw_ HB⟩⟩
 case round =>
  clear H'
  obtain ⟨a5, rfl, HA, g7, a3, HB⟩ := hrel
  cases gk with
  | zero => exact absurd HA.out (by simp [impl_GridOk.l0])
  | succ k1 =>
   have H := HA.out; clear HA
   simp only [impl_GridOk.l0] at H
   by_cases c4 : a5 < (l0_2.length : Int)
   ·rw [if_pos c4] at H; have d8 : decide (a5 < (l0_2.length : Int)) = true := decide_eq_true c4; clear c4; by_cases c5 : 0 ≤ a5
    ·rw [if_pos c5] at H; have p7 : decide (0 ≤ a5) = true := decide_eq_true c5; clear c5; by_cases c6 : a5 < (l0_2.length : Int)
     ·rw [if_pos c6] at H; have p8 : decide (a5 < (l0_2.length : Int)) = true := decide_eq_true c6; clear c6; by_cases c7 : ((rd_L1 l0_2 a5).length : Int) = (l0_0.length : Int)
      ·rw [if_pos c7] at H; have q5 : (((rd_L1 l0_2 a5).length : Int) == (l0_0.length : Int)) = true := beq_iff_eq.mpr c7; have q6 : (((rd_L1 l0_2 a5).length : Int) != (l0_0.length : Int)) = false := bne_eq_false_iff_eq.mpr c7
       have q7 : ((rd_L1 l0_2 a5).length == l0_0.length) = true := by first | simpa using c7 | (simp at c7 ⊢; omega)
       clear c7; replace H := Option.bind_eq_some_iff.mp H; obtain ⟨g1, s3, H⟩ := H; (try dsimp only at H); have A8 := mk_ s3; clear s3; by_cases c9 : g1 = true
       ·subst c9; rw [if_pos rfl] at H
        have H' := mk_ H
        clear H
        have b5 : 0 ≤ (a5 : Int) := od_
        have b6 : a5 < (l0_2.length : Int) := od_
        obtain ⟨d6, c3, d0, d1, a6, a7, a8⟩ := at_L1 c2.out a5 b5 b6; cases d1
        replace a6 := (HB.out.cell (World.block_lt_of_cell? w _ a6)).trans a6
        have b3 := mk_ a8; have b4 := mk_ a7; clear a8 a7; replace b5 := eq_true b5; replace b6 := eq_true b6; have j3 := bc0_ a3; have j4 := bc1_ a3; have j5 := bc2_ a3; have j6 := bf_ a3 0; have j7 := bf_ a3 1; have j8 := bf_ a3 2
        go_wp2_with (first | (go_at_call 85; (with_reducible refine (impl_allIn.calls k1 _ _ (rd_L1 l0_2 a5) (-1000) 1000 true _ ?a9 ?b0 A8.out).mono ?_); (case a9 => exact cw_ (Kd.C_below b3.out HB.out)); (case b0 => exact b4.out); rintro e w' ⟨rfl, ⟨nd, rfl⟩⟩))
        go_roundg k1
        case measure => have := g7.out; omega
        case rel => exact ⟨(wrap64 (a5 + 1)), rf_, H', ⟨by have := g7.out; omega⟩, bw_ a3, ⟨hw_ HB⟩⟩
       ·replace c9 := Bool.eq_false_iff.mpr c9; subst c9; rw [if_neg (show ¬ (false = true) by decide)] at H; obtain rfl := Option.some.inj H
        have b5 : 0 ≤ (a5 : Int) := od_
        have b6 : a5 < (l0_2.length : Int) := od_
        obtain ⟨d6, c3, d0, d1, a6, a7, a8⟩ := at_L1 c2.out a5 b5 b6; cases d1
        replace a6 := (HB.out.cell (World.block_lt_of_cell? w _ a6)).trans a6
        have b3 := mk_ a8; have b4 := mk_ a7; clear a8 a7; replace b5 := eq_true b5; replace b6 := eq_true b6; have j9 := bc0_ a3; have l1 := bc1_ a3; have l2 := bc2_ a3; have l3 := bf_ a3 0; have l4 := bf_ a3 1; have l5 := bf_ a3 2
        go_wp2_with (first | (go_at_call 85; (with_reducible refine (impl_allIn.calls k1 _ _ (rd_L1 l0_2 a5) (-1000) 1000 false _ ?a9 ?b0 A8.out).mono ?_); (case a9 => exact cw_ (Kd.C_below b3.out HB.out)); (case b0 => exact b4.out); rintro e w' ⟨rfl, ⟨nd, rfl⟩⟩))
        go_ret
        exact ⟨re_, hw_ HB⟩
      ·rw [if_neg c7] at H; have q5 : (((rd_L1 l0_2 a5).length : Int) == (l0_0.length : Int)) = false := beq_eq_false_iff_ne.mpr c7; have q6 : (((rd_L1 l0_2 a5).length : Int) != (l0_0.length : Int)) = true := bne_iff_ne.mpr c7
       have q7 : ((rd_L1 l0_2 a5).length == l0_0.length) = false := by first | simpa using c7 | (simp at c7 ⊢; omega)
       obtain rfl := Option.some.inj H
       have b5 : 0 ≤ (a5 : Int) := od_
       have b6 : a5 < (l0_2.length : Int) := od_
       obtain ⟨d6, c3, d0, d1, a6, a7, a8⟩ := at_L1 c2.out a5 b5 b6; cases d1
       replace a6 := (HB.out.cell (World.block_lt_of_cell? w _ a6)).trans a6
       have b3 := mk_ a8; have b4 := mk_ a7; clear a8 a7; replace b5 := eq_true b5; replace b6 := eq_true b6; have l6 := bc0_ a3; have l7 := bc1_ a3; have l8 := bc2_ a3; have l9 := bf_ a3 0; have m0 := bf_ a3 1; have m2 := bf_ a3 2; go_wp2; go_ret
       exact ⟨re_, hw_ HB⟩
     ·rw [if_neg c6] at H
      exact absurd H (by simp)
    ·rw [if_neg c5] at H
     exact absurd H (by simp)
   ·rw [if_neg c4] at H; have d8 : decide (a5 < (l0_2.length : Int)) = false := decide_eq_false c4; clear c4; replace H := Option.bind_eq_some_iff.mp H; obtain ⟨g2, h5, H⟩ := H; (try dsimp only at H); have h6 := mk_ h5; clear h5; by_cases m3 : g2 = true
    ·subst m3; rw [if_pos rfl] at H
     replace H := Option.bind_eq_some_iff.mp H; obtain ⟨g3, h7, H⟩ := H
     (try dsimp only at H); have m4 := mk_ h7; clear h7
     by_cases m5 : g3 = true
     ·subst m5; rw [if_pos rfl] at H
      by_cases d2 : (l0_2.length : Int) = (l0_1.length : Int)
      ·rw [if_pos d2] at H; have h8 : ((l0_2.length : Int) == (l0_1.length : Int)) = true := beq_iff_eq.mpr d2; have h9 : ((l0_2.length : Int) != (l0_1.length : Int)) = false := bne_eq_false_iff_eq.mpr d2
       have j0 : (l0_2.length == l0_1.length) = true := by first | simpa using d2 | (simp at d2 ⊢; omega)
       clear d2; replace H := Option.bind_eq_some_iff.mp H; obtain ⟨g4, j1, H⟩ := H; (try dsimp only at H); have s4 := mk_ j1; clear j1; by_cases m6 : g4 = true
       ·subst m6; rw [if_pos rfl] at H
        replace H := Option.bind_eq_some_iff.mp H; obtain ⟨g5, j2, H⟩ := H
        (try dsimp only at H); have s6 := mk_ j2; clear j2
        obtain rfl := Option.some.inj H; have m7 := bc0_ a3
        have m8 := bc1_ a3; have m9 := bc2_ a3; have n0 := bf_ a3 0; have n1 := bf_ a3 1; have n2 := bf_ a3 2
        go_wp2_with (first | ((with_reducible refine gc_ 76 rfl ?_); refine gl_ (some 27) rfl Try.func76 #[.int .i64 (l0_0.length : Int), .int .i64 2, .int .i64 20] ?_; (with_reducible refine (impl_in.calls (l0_0.length : Int) 2 20 true _ h6.out).mono ?_); rintro e w' ⟨rfl, ⟨nd, rfl⟩⟩; refine ⟨_, rfl, ?_⟩) | (go_at_call 76; (with_reducible refine (impl_in.calls (l0_1.length : Int) 2 20 true _ m4.out).mono ?_); rintro e w' ⟨rfl, ⟨nd, rfl⟩⟩) | (go_at_call 84; (with_reducible refine (impl_ascends.calls k1 _ _ l0_0 (-1000) 1000 true _ ?a9 ?b0 s4.out).mono ?_); (case a9 => repeat (first | exact (Kd.C_below d4.out (hw_ HB)) | (with_reducible refine Kd.C_alloc ?_ _) | (with_reducible refine Kd.C_drewN ?_ _) | (with_reducible refine Kd.C_drew ?_))); (case b0 => exact d5.out); rintro e w' ⟨rfl, ⟨nd, rfl⟩⟩) | (go_at_call 84; (with_reducible refine (impl_ascends.calls k1 _ _ l0_1 (-1000) 1000 g5 _ ?a9 ?b0 s6.out).mono ?_); (case a9 => repeat (first | exact (Kd.C_below g9.out (hw_ HB)) | (with_reducible refine Kd.C_alloc ?_ _) | (with_reducible refine Kd.C_drewN ?_ _) | (with_reducible refine Kd.C_drew ?_))); (case b0 => exact h2.out); rintro e w' ⟨rfl, ⟨nd, rfl⟩⟩))
        go_ret
        exact ⟨re_, hw_ HB⟩
       ·replace m6 := Bool.eq_false_iff.mpr m6; subst m6; rw [if_neg (show ¬ (false = true) by decide)] at H; obtain rfl := Option.some.inj H; have n3 := bc0_ a3; have n4 := bc1_ a3; have n5 := bc2_ a3; have n6 := bf_ a3 0; have n7 := bf_ a3 1; have n8 := bf_ a3 2
        go_wp2_with (first | ((with_reducible refine gc_ 76 rfl ?_); refine gl_ (some 27) rfl Try.func76 #[.int .i64 (l0_0.length : Int), .int .i64 2, .int .i64 20] ?_; (with_reducible refine (impl_in.calls (l0_0.length : Int) 2 20 true _ h6.out).mono ?_); rintro e w' ⟨rfl, ⟨nd, rfl⟩⟩; refine ⟨_, rfl, ?_⟩) | (go_at_call 76; (with_reducible refine (impl_in.calls (l0_1.length : Int) 2 20 true _ m4.out).mono ?_); rintro e w' ⟨rfl, ⟨nd, rfl⟩⟩) | (go_at_call 84; (with_reducible refine (impl_ascends.calls k1 _ _ l0_0 (-1000) 1000 false _ ?a9 ?b0 s4.out).mono ?_); (case a9 => repeat (first | exact (Kd.C_below d4.out (hw_ HB)) | (with_reducible refine Kd.C_alloc ?_ _) | (with_reducible refine Kd.C_drewN ?_ _) | (with_reducible refine Kd.C_drew ?_))); (case b0 => exact d5.out); rintro e w' ⟨rfl, ⟨nd, rfl⟩⟩))
        go_ret
        exact ⟨re_, hw_ HB⟩
      ·rw [if_neg d2] at H; have h8 : ((l0_2.length : Int) == (l0_1.length : Int)) = false := beq_eq_false_iff_ne.mpr d2; have h9 : ((l0_2.length : Int) != (l0_1.length : Int)) = true := bne_iff_ne.mpr d2
       have j0 : (l0_2.length == l0_1.length) = false := by first | simpa using d2 | (simp at d2 ⊢; omega)
       obtain rfl := Option.some.inj H; have n9 := bc0_ a3
       have o0 := bc1_ a3; have o1 := bc2_ a3; have o2 := bf_ a3 0; have o3 := bf_ a3 1; have o4 := bf_ a3 2
       go_wp2_with (first | ((with_reducible refine gc_ 76 rfl ?_); refine gl_ (some 27) rfl Try.func76 #[.int .i64 (l0_0.length : Int), .int .i64 2, .int .i64 20] ?_; (with_reducible refine (impl_in.calls (l0_0.length : Int) 2 20 true _ h6.out).mono ?_); rintro e w' ⟨rfl, ⟨nd, rfl⟩⟩; refine ⟨_, rfl, ?_⟩) | (go_at_call 76; (with_reducible refine (impl_in.calls (l0_1.length : Int) 2 20 true _ m4.out).mono ?_); rintro e w' ⟨rfl, ⟨nd, rfl⟩⟩))
       go_ret
       exact ⟨re_, hw_ HB⟩
     ·replace m5 := Bool.eq_false_iff.mpr m5; subst m5; rw [if_neg (show ¬ (false = true) by decide)] at H; obtain rfl := Option.some.inj H; have o5 := bc0_ a3; have o6 := bc1_ a3; have o7 := bc2_ a3; have o8 := bf_ a3 0; have o9 := bf_ a3 1; have p0 := bf_ a3 2
      go_wp2_with (first | ((with_reducible refine gc_ 76 rfl ?_); refine gl_ (some 27) rfl Try.func76 #[.int .i64 (l0_0.length : Int), .int .i64 2, .int .i64 20] ?_; (with_reducible refine (impl_in.calls (l0_0.length : Int) 2 20 true _ h6.out).mono ?_); rintro e w' ⟨rfl, ⟨nd, rfl⟩⟩; refine ⟨_, rfl, ?_⟩) | (go_at_call 76; (with_reducible refine (impl_in.calls (l0_1.length : Int) 2 20 false _ m4.out).mono ?_); rintro e w' ⟨rfl, ⟨nd, rfl⟩⟩))
      go_ret
      exact ⟨re_, hw_ HB⟩
    ·replace m3 := Bool.eq_false_iff.mpr m3; subst m3; rw [if_neg (show ¬ (false = true) by decide)] at H; obtain rfl := Option.some.inj H; have p1 := bc0_ a3; have p2 := bc1_ a3; have p3 := bc2_ a3; have p4 := bf_ a3 0; have p5 := bf_ a3 1; have p6 := bf_ a3 2
     go_wp2_with (first | ((with_reducible refine gc_ 76 rfl ?_); refine gl_ (some 27) rfl Try.func76 #[.int .i64 (l0_0.length : Int), .int .i64 2, .int .i64 20] ?_; (with_reducible refine (impl_in.calls (l0_0.length : Int) 2 20 false _ h6.out).mono ?_); rintro e w' ⟨rfl, ⟨nd, rfl⟩⟩; refine ⟨_, rfl, ?_⟩))
     go_ret
     exact ⟨re_, hw_ HB⟩

end Go.Proofs.Ytnphbpkpjinddaa.QFnExactAtGrid
-- squeezed
