/- Lean functions that tell what the Go functions used by one law answer, and for each a proof that the Go code comes to just these answers; no condition. Printed by this session's own program over the kit's printer. -/
import Derived.Test.YtkginilghcepbaaWSq
import Derived.Test.YtkginilghcepbaaQFnMomentsx0
import Derived.Test.YtkginilghcepbaaQFnMomentsx1
namespace Go.Proofs.Ytkginilghcepbaa.QFnMoments
open Go.RowKit Go.Proofs.YtkginilghcepbaaW.PrintWords Go.Proofs.YtkginilghcepbaaW.PrintLast Go.Proofs.YtkginilghcepbaaW.PrintMore
attribute [local go_sem] max2_int min2_int max_two min_two max_three min_three max_four min_four   -- for this text's walks alone
attribute [local go_sem high] go_eql go_neq go_lss go_leq go_gtr go_geq go_store   -- for this text's walks alone
set_option linter.unusedVariables false
set_option linter.unusedSimpArgs false

/-! ### impl_EnvelopeOk: function 32 -/
mutual
def impl_EnvelopeOk.j0 : Nat → Bool → List Int → List Int → List Int → Option (Bool)
 | 0, _, _, _, _ => none
 | k + 1, t3, b3, a9, b0 => if t3 = true then (some false) else (impl_EnvelopeOk.l0 k a9 (a9.length : Int) 0 b3 a9 b0)
def impl_EnvelopeOk.l0 : Nat → List Int → Int → Int → List Int → List Int → List Int → Option (Bool)
 | 0, _, _, _, _, _, _ => none
 | k + 1, p7, s1, d9, b3, a9, b0 => if d9 < s1 then (if 0 ≤ d9 then (if d9 < (p7.length : Int) then (if d9 < (b0.length : Int) then (if (rd p7 d9) > (rd b0 d9) then (some false) else (impl_EnvelopeOk.l0 k p7 s1 (wrap64 (d9 + 1)) b3 a9 b0)) else (none)) else (none)) else (none)) else ((impl_allIn.f k a9 (-1000) 1000).bind fun g0 => (if g0 = true then ((impl_allIn.f k b0 (-1000) 1000).bind fun g1 => (some g1)) else (some false)))
end
def impl_EnvelopeOk.f (k : Nat) (l0_0 : List Int) (l0_1 : List Int) (l0_2 : List Int) : Option (Bool) := (impl_in.f (l0_0.length : Int) 2 10).bind fun d3 => (if d3 = true then (if (l0_1.length : Int) = (l0_0.length : Int) then (if (l0_2.length : Int) = (l0_0.length : Int) then ((impl_ascends.f k l0_0 0 400000).bind fun d1 => (impl_EnvelopeOk.j0 k (!d1) l0_0 l0_1 l0_2)) else (impl_EnvelopeOk.j0 k true l0_0 l0_1 l0_2)) else (impl_EnvelopeOk.j0 k true l0_0 l0_1 l0_2)) else (impl_EnvelopeOk.j0 k true l0_0 l0_1 l0_2))
theorem impl_EnvelopeOk.mono_l : ∀ k, (∀ y0 y1 y2 y3, LeO (impl_EnvelopeOk.j0 k y0 y1 y2 y3) (impl_EnvelopeOk.j0 (k + 1) y0 y1 y2 y3)) ∧ (∀ y0 y1 y2 y3 y4 y5, LeO (impl_EnvelopeOk.l0 k y0 y1 y2 y3 y4 y5) (impl_EnvelopeOk.l0 (k + 1) y0 y1 y2 y3 y4 y5))
 | 0 => ⟨fun _ _ _ _ r h => by simp [impl_EnvelopeOk.j0] at h, fun _ _ _ _ _ _ r h => by simp [impl_EnvelopeOk.l0] at h⟩
 | k + 1 => by
  obtain ⟨d2, g2⟩ := impl_EnvelopeOk.mono_l k
  refine ⟨?_, ?_⟩
  ·intro y0 y1 y2 y3
   unfold impl_EnvelopeOk.j0
   repeat' first
   | (with_reducible exact d2 _ _ _ _)
   | (with_reducible exact g2 _ _ _ _ _ _)
   | (with_reducible exact impl_allIn.mono _ _ _ _)
   | (with_reducible exact impl_ascends.mono _ _ _ _)
   | (with_reducible exact LeO.refl _)
   | (with_reducible exact LeO.none _)
   | (with_reducible refine LeO.ite ?_ ?_)
   | (with_reducible refine LeO.bind ?_ (fun _ => ?_))
   | exact d2 _ _ _ _
   | exact g2 _ _ _ _ _ _
   | exact impl_allIn.mono _ _ _ _
   | exact impl_ascends.mono _ _ _ _
   | exact LeO.none _
   | refine LeO.ite ?_ ?_
   | refine LeO.bind ?_ (fun _ => ?_)
  ·intro y0 y1 y2 y3 y4 y5
   unfold impl_EnvelopeOk.l0
   repeat' first
   | (with_reducible exact d2 _ _ _ _)
   | (with_reducible exact g2 _ _ _ _ _ _)
   | (with_reducible exact impl_allIn.mono _ _ _ _)
   | (with_reducible exact impl_ascends.mono _ _ _ _)
   | (with_reducible exact LeO.refl _)
   | (with_reducible exact LeO.none _)
   | (with_reducible refine LeO.ite ?_ ?_)
   | (with_reducible refine LeO.bind ?_ (fun _ => ?_))
   | exact d2 _ _ _ _
   | exact g2 _ _ _ _ _ _
   | exact impl_allIn.mono _ _ _ _
   | exact impl_ascends.mono _ _ _ _
   | exact LeO.none _
   | refine LeO.ite ?_ ?_
   | refine LeO.bind ?_ (fun _ => ?_)
theorem impl_EnvelopeOk.mono : ∀ a0 a1 a2 k, LeO (impl_EnvelopeOk.f k a0 a1 a2) (impl_EnvelopeOk.f (k + 1) a0 a1 a2) := by
 intro a0 a1 a2 k
 obtain ⟨d2, g2⟩ := impl_EnvelopeOk.mono_l k
 unfold impl_EnvelopeOk.f
 repeat' first
   | (with_reducible exact d2 _ _ _ _)
   | (with_reducible exact g2 _ _ _ _ _ _)
   | (with_reducible exact impl_allIn.mono _ _ _ _)
   | (with_reducible exact impl_ascends.mono _ _ _ _)
   | (with_reducible exact LeO.refl _)
   | (with_reducible exact LeO.none _)
   | (with_reducible refine LeO.ite ?_ ?_)
   | (with_reducible refine LeO.bind ?_ (fun _ => ?_))
   | exact d2 _ _ _ _
   | exact g2 _ _ _ _ _ _
   | exact impl_allIn.mono _ _ _ _
   | exact impl_ascends.mono _ _ _ _
   | exact LeO.none _
   | refine LeO.ite ?_ ?_
   | refine LeO.bind ?_ (fun _ => ?_)
set_option maxHeartbeats 8000000 in
set_option maxRecDepth 100000 in
theorem impl_EnvelopeOk.calls (k : Nat) (A0_0 : Option Addr) (c0_0 : Nat) (l0_0 : List Int) (A0_1 : Option Addr) (c0_1 : Nat) (l0_1 : List Int) (A0_2 : Option Addr) (c0_2 : Nat) (l0_2 : List Int) (r : Bool) (w : World) (hr0_0 : Kd.C (Kd.int .i64) w A0_0 l0_0.length l0_0) (hc0_0 : l0_0.length ≤ c0_0) (hr0_1 : Kd.C (Kd.int .i64) w A0_1 l0_1.length l0_1) (hc0_1 : l0_1.length ≤ c0_1) (hr0_2 : Kd.C (Kd.int .i64) w A0_2 l0_2.length l0_2) (hc0_2 : l0_2.length ≤ c0_2) (h : impl_EnvelopeOk.f k l0_0 l0_1 l0_2 = some r) :
  Calls Try.prog 32 #[.agg #[.slice A0_0 l0_0.length c0_0, .slice A0_1 l0_1.length c0_1, .slice A0_2 l0_2.length c0_2]] w fun e w' => e = .returned (.bool r) ∧ Below w.heap.size w w' := by
 have t4 := Try.underlying70
 have g8 := mk_ hr0_0; have g9 := mk_ hc0_0; clear hr0_0 hc0_0; have c9 := mk_ hr0_1; have d7 := mk_ hc0_1; clear hr0_1 hc0_1; have d4 := mk_ hr0_2; have h2 := mk_ hc0_2; clear hr0_2 hc0_2; have HB := mk_ (Below.refl w.heap.size w)
 have H : ((impl_in.f (l0_0.length : Int) 2 10).bind fun d3 => (if d3 = true then (if (l0_1.length : Int) = (l0_0.length : Int) then (if (l0_2.length : Int) = (l0_0.length : Int) then ((impl_ascends.f k l0_0 0 400000).bind fun d1 => (impl_EnvelopeOk.j0 k (!d1) l0_0 l0_1 l0_2)) else (impl_EnvelopeOk.j0 k true l0_0 l0_1 l0_2)) else (impl_EnvelopeOk.j0 k true l0_0 l0_1 l0_2)) else (impl_EnvelopeOk.j0 k true l0_0 l0_1 l0_2))) = some r := h
 clear h; have p8 := mk_ H; clear H
 go_enter Try.func32, Try.ntmps32
 go_upto_region 2 with (first | ((with_reducible refine gd_ 1 rfl ?_); (try (refine gate_guard (by rfl) ?_; dsimp only)); refine box_event ?hg (N := 1) ?hd (cs := #[.slice A0_0 l0_0.length c0_0, .slice A0_1 l0_1.length c0_1, .slice A0_2 l0_2.length c0_2]) (t := 70) ?hr ?_; (case hd => rfl); (case hg => rfl); (case hr => exact hr_); intro d8 hg w3 hbox hb; have a5 := mk_ (hbox); have h3 := gb_ hg HB; replace HB := bp_ HB hb; have s2 := h3; clear hb hbox hg; have p9 := bc0_ a5; have q0 := bc1_ a5; have q1 := bc2_ a5; have q2 := bf_ a5 0; have q3 := bf_ a5 1; have q4 := bf_ a5 2))
 (try simp only [Act.put, List.setIfInBounds_toArray, List.set_cons_zero, List.set_cons_succ])
 go_cut [31] (fun v31 wc => ∃ (kq : Nat) (d0 : Bool), v31 = .bool d0 ∧ Aside0 (impl_EnvelopeOk.j0 kq d0 l0_0 l0_1 l0_2 = some r) ∧ Aside0 (kq ≤ k) ∧ Aside0 (wc.heap[d8]? = some (.cells #[(.slice A0_0 l0_0.length c0_0), (.slice A0_1 l0_1.length c0_1), (.slice A0_2 l0_2.length c0_2)] 70 (0, 0))) ∧ Aside0 (Below w.heap.size w wc))
 case first =>
  have H := p8.out; clear p8; replace H := Option.bind_eq_some_iff.mp H; obtain ⟨d3, s3, H⟩ := H; (try dsimp only at H); have A5 := mk_ s3; clear s3; by_cases c6 : d3 = true
  ·subst c6; rw [if_pos rfl] at H
   by_cases c7 : (l0_1.length : Int) = (l0_0.length : Int)
   ·rw [if_pos c7] at H; have b6 : ((l0_1.length : Int) == (l0_0.length : Int)) = true := beq_iff_eq.mpr c7; have q5 : ((l0_1.length : Int) != (l0_0.length : Int)) = false := bne_eq_false_iff_eq.mpr c7
    have q6 : (l0_1.length == l0_0.length) = true := by first | simpa using c7 | (simp at c7 ⊢; omega)
    clear c7
    (first | rw [b6] | (simp only [i64_w, i32_w]; rw [b6]) | skip)
    by_cases c8 : (l0_2.length : Int) = (l0_0.length : Int)
    ·rw [if_pos c8] at H; have q7 : ((l0_2.length : Int) == (l0_0.length : Int)) = true := beq_iff_eq.mpr c8; have q8 : ((l0_2.length : Int) != (l0_0.length : Int)) = false := bne_eq_false_iff_eq.mpr c8
     have q9 : (l0_2.length == l0_0.length) = true := by first | simpa using c8 | (simp at c8 ⊢; omega)
     clear c8; replace H := Option.bind_eq_some_iff.mp H; obtain ⟨d1, s4, H⟩ := H; (try dsimp only at H); have A9 := mk_ s4; clear s4
     have H' := mk_ H
     clear H
     go_wp2_with (first | ((with_reducible refine gc_ 65 rfl ?_); refine gl_ (some 10) rfl Try.func65 #[.int .i64 (l0_0.length : Int), .int .i64 2, .int .i64 10] ?_; (with_reducible refine (impl_in.calls (l0_0.length : Int) 2 10 true _ A5.out).mono ?_); rintro e w' ⟨rfl, ⟨nd, rfl⟩⟩; refine ⟨_, rfl, ?_⟩; have j3 := bc0_ a5; have j4 := bc1_ a5; have j5 := bc2_ a5; have j6 := bf_ a5 0; have j7 := bf_ a5 1; have j8 := bf_ a5 2) | (go_at_call 69; (with_reducible refine (impl_ascends.calls k _ _ l0_0 0 400000 d1 _ ?b1 ?b2 A9.out).mono ?_); (case b1 => repeat (first | exact (Kd.C_below g8.out (hw_ HB)) | (with_reducible refine Kd.C_alloc ?_ _) | (with_reducible refine Kd.C_drewN ?_ _) | (with_reducible refine Kd.C_drew ?_))); (case b2 => exact g9.out); rintro e w' ⟨rfl, ⟨nd, rfl⟩⟩))
     go_meet
     case rel => exact ⟨_, (!d1), rf_, H', ⟨by first | omega | exact Nat.le_refl _⟩, bw_ a5, ⟨hw_ HB⟩⟩
    ·rw [if_neg c8] at H; have q7 : ((l0_2.length : Int) == (l0_0.length : Int)) = false := beq_eq_false_iff_ne.mpr c8; have q8 : ((l0_2.length : Int) != (l0_0.length : Int)) = true := bne_iff_ne.mpr c8
     have q9 : (l0_2.length == l0_0.length) = false := by first | simpa using c8 | (simp at c8 ⊢; omega)
     have H' := mk_ H
     clear H
     go_wp2_with (first | ((with_reducible refine gc_ 65 rfl ?_); refine gl_ (some 10) rfl Try.func65 #[.int .i64 (l0_0.length : Int), .int .i64 2, .int .i64 10] ?_; (with_reducible refine (impl_in.calls (l0_0.length : Int) 2 10 true _ A5.out).mono ?_); rintro e w' ⟨rfl, ⟨nd, rfl⟩⟩; refine ⟨_, rfl, ?_⟩; have j9 := bc0_ a5; have l1 := bc1_ a5; have l2 := bc2_ a5; have l3 := bf_ a5 0; have l4 := bf_ a5 1; have l5 := bf_ a5 2))
     go_meet
     case rel => exact ⟨_, (true), rf_, H', ⟨by first | omega | exact Nat.le_refl _⟩, bw_ a5, ⟨hw_ HB⟩⟩
   ·rw [if_neg c7] at H; have b6 : ((l0_1.length : Int) == (l0_0.length : Int)) = false := beq_eq_false_iff_ne.mpr c7; have q5 : ((l0_1.length : Int) != (l0_0.length : Int)) = true := bne_iff_ne.mpr c7
    have q6 : (l0_1.length == l0_0.length) = false := by first | simpa using c7 | (simp at c7 ⊢; omega)
    (first | rw [b6] | (simp only [i64_w, i32_w]; rw [b6]) | skip)
    have H' := mk_ H
    clear H
    go_wp2_with (first | ((with_reducible refine gc_ 65 rfl ?_); refine gl_ (some 10) rfl Try.func65 #[.int .i64 (l0_0.length : Int), .int .i64 2, .int .i64 10] ?_; (with_reducible refine (impl_in.calls (l0_0.length : Int) 2 10 true _ A5.out).mono ?_); rintro e w' ⟨rfl, ⟨nd, rfl⟩⟩; refine ⟨_, rfl, ?_⟩; have l6 := bc0_ a5; have l7 := bc1_ a5; have l8 := bc2_ a5; have l9 := bf_ a5 0; have m0 := bf_ a5 1; have m2 := bf_ a5 2))
    go_meet
    case rel => exact ⟨_, (true), rf_, H', ⟨by first | omega | exact Nat.le_refl _⟩, bw_ a5, ⟨hw_ HB⟩⟩
  ·replace c6 := Bool.eq_false_iff.mpr c6; subst c6; rw [if_neg (show ¬ (false = true) by decide)] at H
   have H' := mk_ H
   clear H
   go_wp2_with (first | ((with_reducible refine gc_ 65 rfl ?_); refine gl_ (some 10) rfl Try.func65 #[.int .i64 (l0_0.length : Int), .int .i64 2, .int .i64 10] ?_; (with_reducible refine (impl_in.calls (l0_0.length : Int) 2 10 false _ A5.out).mono ?_); rintro e w' ⟨rfl, ⟨nd, rfl⟩⟩; refine ⟨_, rfl, ?_⟩))
   go_meet
   case rel => exact ⟨_, (true), rf_, H', ⟨by first | omega | exact Nat.le_refl _⟩, bw_ a5, ⟨hw_ HB⟩⟩
 case rest =>
  clear p8
  obtain ⟨kq, d0, rfl, HA, s5, a5, HB⟩ := hcut
  cases kq with
  | zero => exact absurd HA.out (by simp [impl_EnvelopeOk.j0])
  | succ kj1 =>
   have H := HA.out; clear HA
   simp only [impl_EnvelopeOk.j0] at H
   by_cases h4 : d0 = true
   ·subst h4; rw [if_pos rfl] at H
    obtain rfl := Option.some.inj H; go_wp2
    go_ret
    exact ⟨re_, hw_ HB⟩
   ·replace h4 := Bool.eq_false_iff.mpr h4; subst h4; rw [if_neg (show ¬ (false = true) by decide)] at H
    have H' := mk_ H
    clear H; have m3 := bc0_ a5; have m4 := bc1_ a5; have m5 := bc2_ a5; have m6 := bf_ a5 0; have m7 := bf_ a5 1; have m8 := bf_ a5 2; go_wp2
    go_loopg [35] kj1 (fun kq v35 w' => ∃ (a6 : Int), v35 = .int .i64 a6 ∧ Aside0 (impl_EnvelopeOk.l0 kq l0_1 (l0_1.length : Int) a6 l0_0 l0_1 l0_2 = some r) ∧ Aside0 (kq ≤ kj1) ∧ Aside0 (w'.heap[d8]? = some (.cells #[(.slice A0_0 l0_0.length c0_0), (.slice A0_1 l0_1.length c0_1), (.slice A0_2 l0_2.length c0_2)] 70 (0, 0))) ∧ Aside0 (Below w.heap.size w w'))
    case atStart => exact ⟨(0), rf_, H', ⟨Nat.le_refl _⟩, bw_ a5, ⟨hw_ HB⟩⟩
    case round =>
     clear H'; (try clear h4)
     obtain ⟨a6, rfl, HA, s6, a5, HB⟩ := hrel
     cases gk with
     | zero => exact absurd HA.out (by simp [impl_EnvelopeOk.l0])
     | succ k2 =>
      have H := HA.out; clear HA
      simp only [impl_EnvelopeOk.l0] at H
      by_cases g6 : a6 < (l0_1.length : Int)
      ·rw [if_pos g6] at H; have h5 : decide (a6 < (l0_1.length : Int)) = true := decide_eq_true g6; clear g6; by_cases m9 : 0 ≤ a6
       ·rw [if_pos m9] at H; have s7 : decide (0 ≤ a6) = true := decide_eq_true m9; clear m9; by_cases n0 : a6 < (l0_1.length : Int)
        ·rw [if_pos n0] at H; have s8 : decide (a6 < (l0_1.length : Int)) = true := decide_eq_true n0; clear n0; by_cases n1 : a6 < (l0_2.length : Int)
         ·rw [if_pos n1] at H; have s9 : decide (a6 < (l0_2.length : Int)) = true := decide_eq_true n1; clear n1; by_cases g7 : (rd l0_1 a6) > (rd l0_2 a6)
          ·rw [if_pos g7] at H; have h6 : decide ((rd l0_2 a6) < (rd l0_1 a6)) = true := decide_eq_true g7; clear g7; obtain rfl := Option.some.inj H
           have b7 : 0 ≤ (a6 : Int) := od_
           have b8 : a6 < (l0_1.length : Int) := od_
           obtain ⟨h7, g3, a7⟩ := Kd.at_int c9.out a6 b7 b8; cases g3
           replace a7 := (HB.out.cell (World.block_lt_of_cell? w _ a7)).trans a7
           replace b7 := eq_true b7; replace b8 := eq_true b8; have n2 := bc0_ a5; have n3 := bc1_ a5; have n4 := bc2_ a5; have n5 := bf_ a5 0; have n6 := bf_ a5 1; have n7 := bf_ a5 2
           have b9 : 0 ≤ (a6 : Int) := od_
           have c1 : a6 < (l0_2.length : Int) := od_
           obtain ⟨h8, g4, a8⟩ := Kd.at_int d4.out a6 b9 c1; cases g4
           replace a8 := (HB.out.cell (World.block_lt_of_cell? w _ a8)).trans a8
           replace b9 := eq_true b9; replace c1 := eq_true c1; go_wp2; go_ret
           exact ⟨re_, hw_ HB⟩
          ·rw [if_neg g7] at H; have h6 : decide ((rd l0_2 a6) < (rd l0_1 a6)) = false := decide_eq_false g7; clear g7
           have H' := mk_ H
           clear H
           have b7 : 0 ≤ (a6 : Int) := od_
           have b8 : a6 < (l0_1.length : Int) := od_
           obtain ⟨h7, g3, a7⟩ := Kd.at_int c9.out a6 b7 b8; cases g3
           replace a7 := (HB.out.cell (World.block_lt_of_cell? w _ a7)).trans a7
           replace b7 := eq_true b7; replace b8 := eq_true b8; have n8 := bc0_ a5; have n9 := bc1_ a5; have o0 := bc2_ a5; have o1 := bf_ a5 0; have o2 := bf_ a5 1; have o3 := bf_ a5 2
           have b9 : 0 ≤ (a6 : Int) := od_
           have c1 : a6 < (l0_2.length : Int) := od_
           obtain ⟨h8, g4, a8⟩ := Kd.at_int d4.out a6 b9 c1; cases g4
           replace a8 := (HB.out.cell (World.block_lt_of_cell? w _ a8)).trans a8
           replace b9 := eq_true b9; replace c1 := eq_true c1; go_wp2; go_roundg k2
           case measure => have := s5.out; have := s6.out; omega
           case rel => exact ⟨(wrap64 (a6 + 1)), rf_, H', ⟨by have := s5.out; have := s6.out; omega⟩, bw_ a5, ⟨hw_ HB⟩⟩
         ·rw [if_neg n1] at H
          exact absurd H (by simp)
        ·rw [if_neg n0] at H
         exact absurd H (by simp)
       ·rw [if_neg m9] at H
        exact absurd H (by simp)
      ·rw [if_neg g6] at H; have h5 : decide (a6 < (l0_1.length : Int)) = false := decide_eq_false g6; clear g6; replace H := Option.bind_eq_some_iff.mp H; obtain ⟨g0, h9, H⟩ := H; (try dsimp only at H); have t0 := mk_ h9; clear h9; by_cases o4 : g0 = true
       ·subst o4; rw [if_pos rfl] at H
        replace H := Option.bind_eq_some_iff.mp H; obtain ⟨g1, j1, H⟩ := H
        (try dsimp only at H); have t5 := mk_ j1; clear j1
        obtain rfl := Option.some.inj H; have o5 := bc0_ a5
        have o6 := bc1_ a5; have o7 := bc2_ a5; have o8 := bf_ a5 0; have o9 := bf_ a5 1; have p0 := bf_ a5 2
        go_wp2_with (first | ((with_reducible refine gc_ 55 rfl ?_); refine gl_ (some 50) rfl Try.func55 #[.slice A0_1 l0_1.length c0_1, .int .i64 (-1000), .int .i64 1000] ?_; (with_reducible refine (impl_allIn.calls k2 _ _ l0_1 (-1000) 1000 true _ ?b1 ?b2 t0.out).mono ?_); (case b1 => exact cw_ (Kd.C_below c9.out HB.out)); (case b2 => exact d7.out); rintro e w' ⟨rfl, ⟨nd, rfl⟩⟩; refine ⟨_, rfl, ?_⟩) | (go_at_call 55; (with_reducible refine (impl_allIn.calls k2 _ _ l0_2 (-1000) 1000 g1 _ ?b1 ?b2 t5.out).mono ?_); (case b1 => repeat (first | exact (Kd.C_below d4.out (hw_ HB)) | (with_reducible refine Kd.C_alloc ?_ _) | (with_reducible refine Kd.C_drewN ?_ _) | (with_reducible refine Kd.C_drew ?_))); (case b2 => exact h2.out); rintro e w' ⟨rfl, ⟨nd, rfl⟩⟩))
        go_ret
        exact ⟨re_, hw_ HB⟩
       ·replace o4 := Bool.eq_false_iff.mpr o4; subst o4; rw [if_neg (show ¬ (false = true) by decide)] at H; obtain rfl := Option.some.inj H; have p1 := bc0_ a5; have p2 := bc1_ a5; have p3 := bc2_ a5; have p4 := bf_ a5 0; have p5 := bf_ a5 1; have p6 := bf_ a5 2
        go_wp2_with (first | ((with_reducible refine gc_ 55 rfl ?_); refine gl_ (some 50) rfl Try.func55 #[.slice A0_1 l0_1.length c0_1, .int .i64 (-1000), .int .i64 1000] ?_; (with_reducible refine (impl_allIn.calls k2 _ _ l0_1 (-1000) 1000 false _ ?b1 ?b2 t0.out).mono ?_); (case b1 => exact cw_ (Kd.C_below c9.out HB.out)); (case b2 => exact d7.out); rintro e w' ⟨rfl, ⟨nd, rfl⟩⟩; refine ⟨_, rfl, ?_⟩))
        go_ret
        exact ⟨re_, hw_ HB⟩

/-! ### impl_piece: function 66 -/
def impl_piece.l0 : Nat → List Int → Int → Int → Option (Int)
 | 0, _, _, _ => none
 | k + 1, x0, x1, x5 => if (wrap64 (x5 + 2)) < (x0.length : Int) then (if 0 ≤ (wrap64 (x5 + 1)) then (if (wrap64 (x5 + 1)) < (x0.length : Int) then (if (rd x0 (wrap64 (x5 + 1))) ≤ x1 then (impl_piece.l0 k x0 x1 (wrap64 (x5 + 1))) else (some x5)) else (none)) else (none)) else (some x5)
def impl_piece.f (k : Nat) (l0 : List Int) (a1 : Int) : Option (Int) := impl_piece.l0 k l0 a1 0
theorem impl_piece.mono_l : ∀ k, (∀ y0 y1 y2, LeO (impl_piece.l0 k y0 y1 y2) (impl_piece.l0 (k + 1) y0 y1 y2))
 | 0 => fun _ _ _ r h => by simp [impl_piece.l0] at h
 | k + 1 => by
  have d2 := impl_piece.mono_l k
  ·intro y0 y1 y2
   unfold impl_piece.l0
   repeat' first
   | (with_reducible exact d2 _ _ _)
   | (with_reducible exact LeO.refl _)
   | (with_reducible exact LeO.none _)
   | (with_reducible refine LeO.ite ?_ ?_)
   | (with_reducible refine LeO.bind ?_ (fun _ => ?_))
   | exact d2 _ _ _
   | exact LeO.none _
   | refine LeO.ite ?_ ?_
   | refine LeO.bind ?_ (fun _ => ?_)
theorem impl_piece.mono : ∀ a0 a1 k, LeO (impl_piece.f k a0 a1) (impl_piece.f (k + 1) a0 a1) := by
 intro a0 a1 k
 have d2 := impl_piece.mono_l k
 unfold impl_piece.f
 repeat' first
   | (with_reducible exact d2 _ _ _)
   | (with_reducible exact LeO.refl _)
   | (with_reducible exact LeO.none _)
   | (with_reducible refine LeO.ite ?_ ?_)
   | (with_reducible refine LeO.bind ?_ (fun _ => ?_))
   | exact d2 _ _ _
   | exact LeO.none _
   | refine LeO.ite ?_ ?_
   | refine LeO.bind ?_ (fun _ => ?_)
set_option maxHeartbeats 8000000 in
set_option maxRecDepth 100000 in
theorem impl_piece.calls (k : Nat) (A0 : Option Addr) (c0 : Nat) (l0 : List Int) (a1 : Int) (r : Int) (w : World) (hr0 : Kd.C (Kd.int .i64) w A0 l0.length l0) (hc0 : l0.length ≤ c0) (h : impl_piece.f k l0 a1 = some r) :
  Calls Try.prog 66 #[.slice A0 l0.length c0, .int .i64 a1] w fun e w' => e = .returned (.int .i64 r) ∧ Drawn0 w w' := by
 have t1 := mk_ hr0; have t8 := mk_ hc0; clear hr0 hc0
 have H : (impl_piece.l0 k l0 a1 0) = some r := h
 clear h
 have H' := mk_ H
 clear H
 go_enter Try.func66, Try.ntmps66
 go_wp2
 go_loopg [5] k (fun kq v5 w' => ∃ (b4 : Int), v5 = .int .i64 b4 ∧ Aside0 (impl_piece.l0 kq l0 a1 b4 = some r) ∧ Aside0 (kq ≤ k) ∧ Drawn0 w w')
 case atStart => exact ⟨(0), rf_, H', ⟨Nat.le_refl _⟩, by repeat (first | exact Drawn0.refl _ | apply Drawn0.step)⟩
 case round =>
  clear H'
  obtain ⟨b4, rfl, HA, t2, ⟨m1, rfl⟩⟩ := hrel
  cases gk with
  | zero => exact absurd HA.out (by simp [impl_piece.l0])
  | succ k1 =>
   have H := HA.out; clear HA
   simp only [impl_piece.l0] at H
   by_cases c3 : (wrap64 (b4 + 2)) < (l0.length : Int)
   ·rw [if_pos c3] at H; have s0 : decide ((wrap64 (b4 + 2)) < (l0.length : Int)) = true := decide_eq_true c3; clear c3
    obtain ⟨b5, d5⟩ : ∃ j_ : Int, (wrap64 (b4 + 1)) = j_ := ⟨_, rfl⟩
    replace H : (if 0 ≤ (b5) then (if (b5) < (l0.length : Int) then (if (rd l0 (b5)) ≤ a1 then (impl_piece.l0 k1 l0 a1 b5) else (some b4)) else (none)) else (none)) = some r := by first | (rw [d5] at H; exact H) | (simp only [d5] at H ⊢; exact H)
    have hji4w : (IntKind.i64.wrap (b4 + 1)) = b5 := (i64_w _).trans d5
    by_cases c5 : 0 ≤ (b5)
    ·rw [if_pos c5] at H; have t6 : decide (0 ≤ (b5)) = true := decide_eq_true c5; clear c5; by_cases c6 : (b5) < (l0.length : Int)
     ·rw [if_pos c6] at H; have t7 : decide ((b5) < (l0.length : Int)) = true := decide_eq_true c6; clear c6; by_cases c7 : (rd l0 (b5)) ≤ a1
      ·rw [if_pos c7] at H; have b6 : decide ((rd l0 (b5)) ≤ a1) = true := decide_eq_true c7; clear c7
       have H' := mk_ H
       clear H
       have c2 : 0 ≤ ((b5) : Int) := od_
       have c4 : (b5) < (l0.length : Int) := od_
       obtain ⟨j2, g5, d6⟩ := Kd.at_int t1.out (b5) c2 c4; cases g5; replace c2 := eq_true c2; replace c4 := eq_true c4; go_wp2; go_roundg k1
       case measure => have := t2.out; omega
       case rel => exact ⟨(b5), (by first | rfl | (simp; done) | (simp only [← d5] <;> (first | rfl | simp)) | (simp [*]; done)), H', ⟨by have := t2.out; omega⟩, by repeat (first | exact Drawn0.refl _ | apply Drawn0.step)⟩
      ·rw [if_neg c7] at H; have b6 : decide ((rd l0 (b5)) ≤ a1) = false := decide_eq_false c7; clear c7; obtain rfl := Option.some.inj H
       have c2 : 0 ≤ ((b5) : Int) := od_
       have c4 : (b5) < (l0.length : Int) := od_
       obtain ⟨j2, g5, d6⟩ := Kd.at_int t1.out (b5) c2 c4; cases g5; replace c2 := eq_true c2; replace c4 := eq_true c4; go_wp2; go_ret
       exact ⟨by first | rfl | (simp; done) | (simp only [← d5] <;> (first | rfl | simp)) | (simp [*]; done), by repeat (first | exact Drawn0.refl _ | apply Drawn0.step)⟩
     ·rw [if_neg c6] at H
      exact absurd H (by simp)
    ·rw [if_neg c5] at H
     exact absurd H (by simp)
   ·rw [if_neg c3] at H; have s0 : decide ((wrap64 (b4 + 2)) < (l0.length : Int)) = false := decide_eq_false c3; clear c3; obtain rfl := Option.some.inj H; go_wp2; go_ret
    exact ⟨by first | rfl | (simp; done) | (simp [*]; done), by repeat (first | exact Drawn0.refl _ | apply Drawn0.step)⟩

/-! ### impl_between: function 67 -/
def impl_between.f (a0 : Int) (a1 : Int) (a2 : Int) (a3 : Int) (a4 : Int) : Option (Int × Int) := some (wrap64 ((wrap64 (a2 * (wrap64 (a1 - a0)))) + (wrap64 ((wrap64 (a3 - a2)) * (wrap64 (a4 - a0))))), wrap64 (a1 - a0))
set_option maxHeartbeats 8000000 in
set_option maxRecDepth 100000 in
theorem impl_between.calls (a0 : Int) (a1 : Int) (a2 : Int) (a3 : Int) (a4 : Int) (r1 : Int) (r2 : Int) (w : World) (h : impl_between.f a0 a1 a2 a3 a4 = some (r1, r2)) :
  Calls Try.prog 67 #[.int .i64 a0, .int .i64 a1, .int .i64 a2, .int .i64 a3, .int .i64 a4] w fun e w' => e = .returned (.tuple #[.int .i64 r1, .int .i64 r2]) ∧ Drawn0 w w' := by
 have H : (some (wrap64 ((wrap64 (a2 * (wrap64 (a1 - a0)))) + (wrap64 ((wrap64 (a3 - a2)) * (wrap64 (a4 - a0))))), wrap64 (a1 - a0))) = some (r1, r2) := h
 clear h
 simp only [Option.some.injEq, Prod.mk.injEq] at H
 obtain ⟨rfl, rfl⟩ := H
 go_enter Try.func67, Try.ntmps67
 go_wp2
 go_ret2
 exact ⟨by first | rfl | (simp; done) | (simp [*]; done), by repeat (first | exact Drawn0.refl _ | apply Drawn0.step)⟩

end Go.Proofs.Ytkginilghcepbaa.QFnMoments
-- squeezed
