/- Lean functions that tell what the Go functions used by one law answer, and for each a proof that the Go code comes to just these answers; no condition. Printed by this session's own program over the kit's printer. -/
import Derived.Test.YtnphbpkpjinddaaWSq
import Derived.Test.YtnphbpkpjinddaaQFnExactClearsx0
import Derived.Test.YtnphbpkpjinddaaQFnExactClearsx1
import Derived.Test.YtnphbpkpjinddaaQFnExactClearsx2
import Derived.Test.YtnphbpkpjinddaaQFnExactClearsx3
namespace Go.Proofs.Ytnphbpkpjinddaa.QFnExactClears
open Go.RowKit Go.Proofs.YtnphbpkpjinddaaW.PrintWords Go.Proofs.YtnphbpkpjinddaaW.PrintLast Go.Proofs.YtnphbpkpjinddaaW.PrintMore
attribute [local go_sem] max2_int min2_int max_two min_two max_three min_three max_four min_four   -- for this text's walks alone
attribute [local go_sem high] go_eql go_neq go_lss go_leq go_gtr go_geq go_store   -- for this text's walks alone
set_option linter.unusedVariables false
set_option linter.unusedSimpArgs false

/-! ### laws_eqPeakS: function 58 -/
def laws_eqPeakS.l0 : Nat → List (S134) → List (S134) → Int → Option (Bool)
 | 0, _, _, _ => none
 | k + 1, x0, x1, x5 => if x5 < (x0.length : Int) then (if 0 ≤ x5 then (if x5 < (x1.length : Int) then ((laws_eqPeak.f ((rd_T134 x0 x5).f0) ((rd_T134 x0 x5).f1) ((rd_T134 x1 x5).f0) ((rd_T134 x1 x5).f1)).bind fun j2 => (if j2 = true then (laws_eqPeakS.l0 k x0 x1 (wrap64 (x5 + 1))) else (some false))) else (none)) else (none)) else (some true)
def laws_eqPeakS.f (k : Nat) (l0 : List (S134)) (l1 : List (S134)) : Option (Bool) := if (l0.length : Int) = (l1.length : Int) then (laws_eqPeakS.l0 k l0 l1 0) else (some false)
theorem laws_eqPeakS.mono_l : ∀ k, (∀ y0 y1 y2, LeO (laws_eqPeakS.l0 k y0 y1 y2) (laws_eqPeakS.l0 (k + 1) y0 y1 y2))
 | 0 => fun _ _ _ r h => by simp [laws_eqPeakS.l0] at h
 | k + 1 => by
  have h4 := laws_eqPeakS.mono_l k
  ·intro y0 y1 y2
   unfold laws_eqPeakS.l0
   repeat' first
   | (with_reducible exact h4 _ _ _)
   | (with_reducible exact LeO.refl _)
   | (with_reducible exact LeO.none _)
   | (with_reducible refine LeO.ite ?_ ?_)
   | (with_reducible refine LeO.bind ?_ (fun _ => ?_))
   | exact h4 _ _ _
   | exact LeO.none _
   | refine LeO.ite ?_ ?_
   | refine LeO.bind ?_ (fun _ => ?_)
theorem laws_eqPeakS.mono : ∀ a0 a1 k, LeO (laws_eqPeakS.f k a0 a1) (laws_eqPeakS.f (k + 1) a0 a1) := by
 intro a0 a1 k
 have h4 := laws_eqPeakS.mono_l k
 unfold laws_eqPeakS.f
 repeat' first
   | (with_reducible exact h4 _ _ _)
   | (with_reducible exact LeO.refl _)
   | (with_reducible exact LeO.none _)
   | (with_reducible refine LeO.ite ?_ ?_)
   | (with_reducible refine LeO.bind ?_ (fun _ => ?_))
   | exact h4 _ _ _
   | exact LeO.none _
   | refine LeO.ite ?_ ?_
   | refine LeO.bind ?_ (fun _ => ?_)
def laws_eqPeakS.T6 : Bool × List (List Nat × List Nat) := (true, [([], []), ([], []), ([0, 1], [0, 1]), ([2], [2]), ([], []), ([], []), ([4, 5], [4, 5]), ([6], [6]), ([3, 7], [3, 7]), ([8], [8])])
def laws_eqPeakS.B6 : List Nat := [0, 0, 3, 7, 0, 0, 48, 112, 255, 511]
theorem laws_eqPeakS.tab6 : rtab .any (opsOf Try.f58 6) = laws_eqPeakS.T6 := by kernel_rfl
theorem laws_eqPeakS.bits6 : waitsOk laws_eqPeakS.T6.2 laws_eqPeakS.B6 = true := by kernel_rfl
set_option maxHeartbeats 8000000 in
set_option maxRecDepth 100000 in
theorem laws_eqPeakS.calls (k : Nat) (A0 : Option Addr) (c0 : Nat) (l0 : List (S134)) (A1 : Option Addr) (c1 : Nat) (l1 : List (S134)) (r : Bool) (w : World) (hr0 : Kd.C k134 w A0 l0.length l0) (hc0 : l0.length ≤ c0) (hr1 : Kd.C k134 w A1 l1.length l1) (hc1 : l1.length ≤ c1) (h : laws_eqPeakS.f k l0 l1 = some r) :
  Calls Try.prog 58 #[.slice A0 l0.length c0, .slice A1 l1.length c1] w fun e w' => e = .returned (.bool r) ∧ Below w.heap.size w w' := by
 have q1 := Try.underlying134
 have q2 := mk_ hr0; have s8 := mk_ hc0; clear hr0 hc0; have h5 := mk_ hr1; have h8 := mk_ hc1; clear hr1 hc1; have HB := mk_ (Below.refl w.heap.size w)
 have H : (if (l0.length : Int) = (l1.length : Int) then (laws_eqPeakS.l0 k l0 l1 0) else (some false)) = some r := h
 clear h; by_cases c3 : (l0.length : Int) = (l1.length : Int)
 ·rw [if_pos c3] at H; have n1 : ((l0.length : Int) == (l1.length : Int)) = true := beq_iff_eq.mpr c3; have n2 : ((l0.length : Int) != (l1.length : Int)) = false := bne_eq_false_iff_eq.mpr c3
  have n3 : (l0.length == l1.length) = true := by first | simpa using c3 | (simp at c3 ⊢; omega)
  clear c3
  have H' := mk_ H
  clear H
  go_enter Try.func58, Try.ntmps58
  go_wp2
  go_loopg [5] k (fun kq v5 w' => ∃ (a6 : Int), v5 = .int .i64 a6 ∧ Aside0 (laws_eqPeakS.l0 kq l0 l1 a6 = some r) ∧ Aside0 (kq ≤ k) ∧ Aside0 (Below w.heap.size w w'))
  case atStart => exact ⟨(0), rf_, H', ⟨Nat.le_refl _⟩, ⟨hw_ HB⟩⟩
  case round =>
   clear H'; (try clear c1); (try clear c3)
   obtain ⟨a6, rfl, HA, q3, HB⟩ := hrel
   cases gk with
   | zero => exact absurd HA.out (by simp [laws_eqPeakS.l0])
   | succ k1 =>
    have H := HA.out; clear HA
    simp only [laws_eqPeakS.l0] at H
    by_cases c4 : a6 < (l0.length : Int)
    ·rw [if_pos c4] at H; have n4 : decide (a6 < (l0.length : Int)) = true := decide_eq_true c4; clear c4; by_cases c5 : 0 ≤ a6
     ·rw [if_pos c5] at H; have q8 : decide (0 ≤ a6) = true := decide_eq_true c5; clear c5; by_cases c6 : a6 < (l1.length : Int)
      ·rw [if_pos c6] at H; have j3 : decide (a6 < (l1.length : Int)) = true := decide_eq_true c6; clear c6; replace H := Option.bind_eq_some_iff.mp H; obtain ⟨j2, l5, H⟩ := H; (try dsimp only at H); have A7 := mk_ l5; clear l5; by_cases c8 : j2 = true
       ·subst c8; rw [if_pos rfl] at H
        have H' := mk_ H
        clear H
        try go_wp2
        replace HB := dH_ HB
        have g4 : 0 ≤ (a6 : Int) := od_
        have g5 : a6 < (l0.length : Int) := od_
        obtain ⟨d2, j4, b0, b1⟩ := at_T134 q2.out a6 g4 g5
        have hw158_1 := b1
        have hw158_0 := b0
        cases j4
        replace b0 := (HB.out.cell (World.block_lt_of_cell? w _ b0)).trans b0
        replace b1 := (HB.out.cell (World.block_lt_of_cell? w _ b1)).trans b1
        replace g4 := eq_true g4; replace g5 := eq_true g5
        have g6 : 0 ≤ (a6 : Int) := od_
        have g7 : a6 < (l1.length : Int) := od_
        obtain ⟨d3, j5, b2, b3⟩ := at_T134 h5.out a6 g6 g7
        have hw159_1 := b3
        have hw159_0 := b2
        cases j5
        replace b2 := (HB.out.cell (World.block_lt_of_cell? w _ b2)).trans b2
        replace b3 := (HB.out.cell (World.block_lt_of_cell? w _ b3)).trans b3
        replace g6 := eq_true g6; replace g7 := eq_true g7
        refine start_ (n := 10) (S := fun w' => w'.cell? (d2.add ((a6).toNat * 2)) = some (.int .i64 ((rd_T134 l0 a6).f0)) ∧ w'.cell? ⟨(d2.add ((a6).toNat * 2)).block, (d2.add ((a6).toNat * 2)).off + 1, none⟩ = some (.int .i64 ((rd_T134 l0 a6).f1)) ∧ w'.cell? (d3.add ((a6).toNat * 2)) = some (.int .i64 ((rd_T134 l1 a6).f0)) ∧ w'.cell? ⟨(d3.add ((a6).toNat * 2)).block, (d3.add ((a6).toNat * 2)).off + 1, none⟩ = some (.int .i64 ((rd_T134 l1 a6).f1))) (ds := []) (bs_ 10 0) (by kernel_rfl) rfl (by kernel_rfl) ⟨((HB.out.cell (World.block_lt_of_cell? w _ hw158_0)).trans hw158_0), ((HB.out.cell (World.block_lt_of_cell? w _ hw158_1)).trans hw158_1), ((HB.out.cell (World.block_lt_of_cell? w _ hw159_0)).trans hw159_0), ((HB.out.cell (World.block_lt_of_cell? w _ hw159_1)).trans hw159_1)⟩ (fun hHeld => ?_); refine with_tabW laws_eqPeakS.tab6 laws_eqPeakS.bits6 (fun HT_ HW_ => ?_)
        generalize wr.drew = w9 at HB b0 b1 b2 b3 hHeld ⊢
        refine pu_ HT_ 0 17 (bs_ 10 1) ?_; refine pu_ HT_ 1 18 (bs_ 10 3) ?_; refine pu_ HT_ 2 19 (bs_ 10 7) ?_; refine pu_ HT_ 4 21 (bs_ 10 23) ?_; refine pu_ HT_ 5 22 (bs_ 10 55) ?_; refine pu_ HT_ 6 23 (bs_ 10 119) ?_; refine tk_ HT_ HW_ 3 20 (bs_ 10 127) hHeld ?_; refine tk_ HT_ HW_ 7 24 (bs_ 10 255) hHeld ?_
        refine one_ (i := 8) (N := some 25) (bs_ 10 511) rfl rfl (one_of HT_.out (by kernel_rfl)) (by decide) (fun K hK => ?_)
        refine gs_ Try.func116 #[.agg #[.int .i64 ((rd_T134 l0 a6).f0), .int .i64 ((rd_T134 l0 a6).f1)], .agg #[.int .i64 ((rd_T134 l1 a6).f0), .int .i64 ((rd_T134 l1 a6).f1)]] ?_
        with_reducible refine (laws_eqPeak.calls ((rd_T134 l0 a6).f0) ((rd_T134 l0 a6).f1) ((rd_T134 l1 a6).f0) ((rd_T134 l1 a6).f1) true _ A7.out).mono ?_
        rintro e s9 ⟨rfl, hb⟩
        refine ⟨_, rfl, ?_⟩
        replace HB := hk_ HB hb
        (try clear hb); (try clear g3); (try clear hk); (try clear hi)
        refine hK.out _ _ ⟨((HB.out.cell (World.block_lt_of_cell? w _ hw158_0)).trans hw158_0), ((HB.out.cell (World.block_lt_of_cell? w _ hw158_1)).trans hw158_1), ((HB.out.cell (World.block_lt_of_cell? w _ hw159_0)).trans hw159_0), ((HB.out.cell (World.block_lt_of_cell? w _ hw159_1)).trans hw159_1)⟩ (fun hHeld => ?_)
        clear hK K; refine nm_ 25 ?_; refine pu_ HT_ 9 26 (bs_ 10 1023) ?_
        refine done_ (done_of HT_.out (by kernel_rfl)) ?_
        try go_wp2
        go_roundg k1
        case measure => have := q3.out; omega
        case rel => exact ⟨(wrap64 (a6 + 1)), rf_, H', ⟨by have := q3.out; omega⟩, ⟨hw_ HB⟩⟩
       ·replace c8 := Bool.eq_false_iff.mpr c8; subst c8; rw [if_neg (show ¬ (false = true) by decide)] at H; obtain rfl := Option.some.inj H
        try go_wp2
        replace HB := dH_ HB
        have g4 : 0 ≤ (a6 : Int) := od_
        have g5 : a6 < (l0.length : Int) := od_
        obtain ⟨d2, j4, b0, b1⟩ := at_T134 q2.out a6 g4 g5
        have hw158_1 := b1
        have hw158_0 := b0
        cases j4
        replace b0 := (HB.out.cell (World.block_lt_of_cell? w _ b0)).trans b0
        replace b1 := (HB.out.cell (World.block_lt_of_cell? w _ b1)).trans b1
        replace g4 := eq_true g4; replace g5 := eq_true g5
        have g6 : 0 ≤ (a6 : Int) := od_
        have g7 : a6 < (l1.length : Int) := od_
        obtain ⟨d3, j5, b2, b3⟩ := at_T134 h5.out a6 g6 g7
        have hw159_1 := b3
        have hw159_0 := b2
        cases j5
        replace b2 := (HB.out.cell (World.block_lt_of_cell? w _ b2)).trans b2
        replace b3 := (HB.out.cell (World.block_lt_of_cell? w _ b3)).trans b3
        replace g6 := eq_true g6; replace g7 := eq_true g7
        refine start_ (n := 10) (S := fun w' => w'.cell? (d2.add ((a6).toNat * 2)) = some (.int .i64 ((rd_T134 l0 a6).f0)) ∧ w'.cell? ⟨(d2.add ((a6).toNat * 2)).block, (d2.add ((a6).toNat * 2)).off + 1, none⟩ = some (.int .i64 ((rd_T134 l0 a6).f1)) ∧ w'.cell? (d3.add ((a6).toNat * 2)) = some (.int .i64 ((rd_T134 l1 a6).f0)) ∧ w'.cell? ⟨(d3.add ((a6).toNat * 2)).block, (d3.add ((a6).toNat * 2)).off + 1, none⟩ = some (.int .i64 ((rd_T134 l1 a6).f1))) (ds := []) (bs_ 10 0) (by kernel_rfl) rfl (by kernel_rfl) ⟨((HB.out.cell (World.block_lt_of_cell? w _ hw158_0)).trans hw158_0), ((HB.out.cell (World.block_lt_of_cell? w _ hw158_1)).trans hw158_1), ((HB.out.cell (World.block_lt_of_cell? w _ hw159_0)).trans hw159_0), ((HB.out.cell (World.block_lt_of_cell? w _ hw159_1)).trans hw159_1)⟩ (fun hHeld => ?_); refine with_tabW laws_eqPeakS.tab6 laws_eqPeakS.bits6 (fun HT_ HW_ => ?_)
        generalize wr.drew = t0 at HB b0 b1 b2 b3 hHeld ⊢
        refine pu_ HT_ 0 17 (bs_ 10 1) ?_; refine pu_ HT_ 1 18 (bs_ 10 3) ?_; refine pu_ HT_ 2 19 (bs_ 10 7) ?_; refine pu_ HT_ 4 21 (bs_ 10 23) ?_; refine pu_ HT_ 5 22 (bs_ 10 55) ?_; refine pu_ HT_ 6 23 (bs_ 10 119) ?_; refine tk_ HT_ HW_ 3 20 (bs_ 10 127) hHeld ?_; refine tk_ HT_ HW_ 7 24 (bs_ 10 255) hHeld ?_
        refine one_ (i := 8) (N := some 25) (bs_ 10 511) rfl rfl (one_of HT_.out (by kernel_rfl)) (by decide) (fun K hK => ?_)
        refine gs_ Try.func116 #[.agg #[.int .i64 ((rd_T134 l0 a6).f0), .int .i64 ((rd_T134 l0 a6).f1)], .agg #[.int .i64 ((rd_T134 l1 a6).f0), .int .i64 ((rd_T134 l1 a6).f1)]] ?_
        with_reducible refine (laws_eqPeak.calls ((rd_T134 l0 a6).f0) ((rd_T134 l0 a6).f1) ((rd_T134 l1 a6).f0) ((rd_T134 l1 a6).f1) false _ A7.out).mono ?_
        rintro e t1 ⟨rfl, hb⟩
        refine ⟨_, rfl, ?_⟩
        replace HB := hk_ HB hb
        (try clear hb); (try clear g3); (try clear hk); (try clear hi)
        refine hK.out _ _ ⟨((HB.out.cell (World.block_lt_of_cell? w _ hw158_0)).trans hw158_0), ((HB.out.cell (World.block_lt_of_cell? w _ hw158_1)).trans hw158_1), ((HB.out.cell (World.block_lt_of_cell? w _ hw159_0)).trans hw159_0), ((HB.out.cell (World.block_lt_of_cell? w _ hw159_1)).trans hw159_1)⟩ (fun hHeld => ?_)
        clear hK K; refine nm_ 25 ?_; refine pu_ HT_ 9 26 (bs_ 10 1023) ?_
        refine done_ (done_of HT_.out (by kernel_rfl)) ?_
        try go_wp2
        go_ret
        exact ⟨re_, hw_ HB⟩
      ·rw [if_neg c6] at H
       exact absurd H (by simp)
     ·rw [if_neg c5] at H
      exact absurd H (by simp)
    ·rw [if_neg c4] at H; have n4 : decide (a6 < (l0.length : Int)) = false := decide_eq_false c4; clear c4; obtain rfl := Option.some.inj H; go_wp2; go_ret
     exact ⟨re_, hw_ HB⟩
 ·rw [if_neg c3] at H; have n1 : ((l0.length : Int) == (l1.length : Int)) = false := beq_eq_false_iff_ne.mpr c3; have n2 : ((l0.length : Int) != (l1.length : Int)) = true := bne_iff_ne.mpr c3
  have n3 : (l0.length == l1.length) = false := by first | simpa using c3 | (simp at c3 ⊢; omega)
  obtain rfl := Option.some.inj H
  go_enter Try.func58, Try.ntmps58
  go_wp2; go_ret
  exact ⟨re_, hw_ HB⟩

/-! ### laws_FnExactClears: function 11 -/
def laws_FnExactClears.j0 : Nat → List (S139) → List (S141) → List (S137) → List (S134) → Bool → Option (Bool)
 | 0, _, _, _, _, _ => none
 | k + 1, x1, x2, q9, s0, s1 => if s1 = true then (some false) else ((laws_toPhaseS.f k x1).bind fun d4 => ((laws_eqPhaseS.f k q9 d4).bind fun j6 => (if j6 = true then ((laws_toPeakS.f k x2).bind fun d8 => ((laws_eqPeakS.f k s0 d8).bind fun j7 => (if j7 = true then (some true) else (some false)))) else (some false))))
def laws_FnExactClears.f (k : Nat) (a0 : Int) (l1 : List (S139)) (l2 : List (S141)) (a3 : Int) : Option (Bool) := (laws_szPhaseS.f l1 1048576).bind fun c7 => (if c7 < 0 then (some true) else ((laws_szPeakS.f l2 c7).bind fun d6 => (if d6 < 0 then (some true) else ((laws_toPhaseS.f k l1).bind fun g8 => ((laws_toPeakS.f k l2).bind fun g9 => ((spec_Clears.f k a0 g8 g9 a3).bind fun d9 => ((laws_toPhaseS.f k l1).bind fun b4 => ((laws_toPeakS.f k l2).bind fun b8 => ((impl_Clears.f k a0 b4 b8 a3).bind fun g1 => (if g1.1 = d9.1 then (laws_FnExactClears.j0 k l1 l2 b4 b8 (g1.2 != d9.2)) else (laws_FnExactClears.j0 k l1 l2 b4 b8 true)))))))))))
theorem laws_FnExactClears.mono_l : ∀ k, (∀ y0 y1 y2 y3 y4, LeO (laws_FnExactClears.j0 k y0 y1 y2 y3 y4) (laws_FnExactClears.j0 (k + 1) y0 y1 y2 y3 y4))
 | 0 => fun _ _ _ _ _ r h => by simp [laws_FnExactClears.j0] at h
 | k + 1 => by
  have h4 := laws_FnExactClears.mono_l k
  ·intro y0 y1 y2 y3 y4
   unfold laws_FnExactClears.j0
   repeat' first
   | (with_reducible exact h4 _ _ _ _ _)
   | (with_reducible exact impl_Clears.mono _ _ _ _ _)
   | (with_reducible exact laws_eqPeakS.mono _ _ _)
   | (with_reducible exact laws_eqPhaseS.mono _ _ _)
   | (with_reducible exact laws_toPeakS.mono _ _)
   | (with_reducible exact laws_toPhaseS.mono _ _)
   | (with_reducible exact spec_Clears.mono _ _ _ _ _)
   | (with_reducible exact LeO.refl _)
   | (with_reducible exact LeO.none _)
   | (with_reducible refine LeO.ite ?_ ?_)
   | (with_reducible refine LeO.bind ?_ (fun _ => ?_))
   | exact h4 _ _ _ _ _
   | exact impl_Clears.mono _ _ _ _ _
   | exact laws_eqPeakS.mono _ _ _
   | exact laws_eqPhaseS.mono _ _ _
   | exact laws_toPeakS.mono _ _
   | exact laws_toPhaseS.mono _ _
   | exact spec_Clears.mono _ _ _ _ _
   | exact LeO.none _
   | refine LeO.ite ?_ ?_
   | refine LeO.bind ?_ (fun _ => ?_)
theorem laws_FnExactClears.mono : ∀ a0 a1 a2 a3 k, LeO (laws_FnExactClears.f k a0 a1 a2 a3) (laws_FnExactClears.f (k + 1) a0 a1 a2 a3) := by
 intro a0 a1 a2 a3 k
 have h4 := laws_FnExactClears.mono_l k
 unfold laws_FnExactClears.f
 repeat' first
   | (with_reducible exact h4 _ _ _ _ _)
   | (with_reducible exact impl_Clears.mono _ _ _ _ _)
   | (with_reducible exact laws_eqPeakS.mono _ _ _)
   | (with_reducible exact laws_eqPhaseS.mono _ _ _)
   | (with_reducible exact laws_toPeakS.mono _ _)
   | (with_reducible exact laws_toPhaseS.mono _ _)
   | (with_reducible exact spec_Clears.mono _ _ _ _ _)
   | (with_reducible exact LeO.refl _)
   | (with_reducible exact LeO.none _)
   | (with_reducible refine LeO.ite ?_ ?_)
   | (with_reducible refine LeO.bind ?_ (fun _ => ?_))
   | exact h4 _ _ _ _ _
   | exact impl_Clears.mono _ _ _ _ _
   | exact laws_eqPeakS.mono _ _ _
   | exact laws_eqPhaseS.mono _ _ _
   | exact laws_toPeakS.mono _ _
   | exact laws_toPhaseS.mono _ _
   | exact spec_Clears.mono _ _ _ _ _
   | exact LeO.none _
   | refine LeO.ite ?_ ?_
   | refine LeO.bind ?_ (fun _ => ?_)
set_option maxHeartbeats 8000000 in
set_option maxRecDepth 100000 in
theorem laws_FnExactClears.calls (k : Nat) (a0 : Int) (A1 : Option Addr) (c1 : Nat) (l1 : List (S139)) (A2 : Option Addr) (c2 : Nat) (l2 : List (S141)) (a3 : Int) (r : Bool) (w : World) (hr1 : Kd.C k139 w A1 l1.length l1) (hc1 : l1.length ≤ c1) (hr2 : Kd.C k141 w A2 l2.length l2) (hc2 : l2.length ≤ c2) (h : laws_FnExactClears.f k a0 l1 l2 a3 = some r) :
  Calls Try.prog 11 #[.int .i64 a0, .slice A1 l1.length c1, .slice A2 l2.length c2, .int .i64 a3] w fun e w' => e = .returned (.bool r) ∧ Below w.heap.size w w' := by
 have h5 := mk_ hr1; have h8 := mk_ hc1; clear hr1 hc1; have l3 := mk_ hr2; have l4 := mk_ hc2; clear hr2 hc2; have HB := mk_ (Below.refl w.heap.size w)
 have H : ((laws_szPhaseS.f l1 1048576).bind fun c7 => (if c7 < 0 then (some true) else ((laws_szPeakS.f l2 c7).bind fun d6 => (if d6 < 0 then (some true) else ((laws_toPhaseS.f k l1).bind fun g8 => ((laws_toPeakS.f k l2).bind fun g9 => ((spec_Clears.f k a0 g8 g9 a3).bind fun d9 => ((laws_toPhaseS.f k l1).bind fun b4 => ((laws_toPeakS.f k l2).bind fun b8 => ((impl_Clears.f k a0 b4 b8 a3).bind fun g1 => (if g1.1 = d9.1 then (laws_FnExactClears.j0 k l1 l2 b4 b8 (g1.2 != d9.2)) else (laws_FnExactClears.j0 k l1 l2 b4 b8 true)))))))))))) = some r := h
 clear h; replace H := Option.bind_eq_some_iff.mp H; obtain ⟨c7, q4, H⟩ := H; (try dsimp only at H); have A5 := mk_ q4; clear q4; by_cases c6 : c7 < 0
 ·rw [if_pos c6] at H; have j3 : decide (c7 < 0) = true := decide_eq_true c6; clear c6; obtain rfl := Option.some.inj H
  go_enter Try.func11, Try.ntmps11
  go_wp2_with (first | ((with_reducible refine gc_ 51 rfl ?_); refine gl_ (some 18) rfl Try.func51 #[.slice A1 l1.length c1, .int .i64 1048576] ?_; (with_reducible refine (laws_szPhaseS.calls _ _ l1 1048576 c7 _ ?a4 ?a5 A5.out).mono ?_); (case a4 => exact cw_ h5.out); (case a5 => exact h8.out); rintro e w' ⟨rfl, ⟨nd, rfl⟩⟩; refine ⟨_, rfl, ?_⟩))
  go_ret
  exact ⟨re_, hw_ HB⟩
 ·rw [if_neg c6] at H; have j3 : decide (c7 < 0) = false := decide_eq_false c6; clear c6; replace H := Option.bind_eq_some_iff.mp H; obtain ⟨d6, l5, H⟩ := H; (try dsimp only at H); have A7 := mk_ l5; clear l5; by_cases c8 : d6 < 0
  ·rw [if_pos c8] at H; have n5 : decide (d6 < 0) = true := decide_eq_true c8; clear c8; obtain rfl := Option.some.inj H
   go_enter Try.func11, Try.ntmps11
   go_wp2_with (first | ((with_reducible refine gc_ 51 rfl ?_); refine gl_ (some 18) rfl Try.func51 #[.slice A1 l1.length c1, .int .i64 1048576] ?_; (with_reducible refine (laws_szPhaseS.calls _ _ l1 1048576 c7 _ ?a4 ?a5 A5.out).mono ?_); (case a4 => exact cw_ h5.out); (case a5 => exact h8.out); rintro e w' ⟨rfl, ⟨nd, rfl⟩⟩; refine ⟨_, rfl, ?_⟩) | ((with_reducible refine gc_ 52 rfl ?_); refine gl_ (some 23) rfl Try.func52 #[.slice A2 l2.length c2, .int .i64 c7] ?_; (with_reducible refine (laws_szPeakS.calls _ _ l2 c7 d6 _ ?a4 ?a5 A7.out).mono ?_); (case a4 => exact cw_ l3.out); (case a5 => exact l4.out); rintro e w' ⟨rfl, ⟨nd, rfl⟩⟩; refine ⟨_, rfl, ?_⟩))
   go_ret
   exact ⟨re_, hw_ HB⟩
  ·rw [if_neg c8] at H; have n5 : decide (d6 < 0) = false := decide_eq_false c8; clear c8; replace H := Option.bind_eq_some_iff.mp H; obtain ⟨g8, q5, H⟩ := H; (try dsimp only at H); have A9 := mk_ q5; clear q5; replace H := Option.bind_eq_some_iff.mp H; obtain ⟨g9, l6, H⟩ := H; (try dsimp only at H); have s2 := mk_ l6; clear l6; replace H := Option.bind_eq_some_iff.mp H; obtain ⟨⟨h2, l7⟩, l8, H⟩ := H; (try dsimp only at H); have s3 := mk_ l8; clear l8; replace H := Option.bind_eq_some_iff.mp H; obtain ⟨b4, l9, H⟩ := H; (try dsimp only at H); have s4 := mk_ l9; clear l9; replace H := Option.bind_eq_some_iff.mp H; obtain ⟨b8, m0, H⟩ := H; (try dsimp only at H); have s5 := mk_ m0; clear m0; replace H := Option.bind_eq_some_iff.mp H; obtain ⟨⟨h3, m1⟩, m2, H⟩ := H; (try dsimp only at H); have s6 := mk_ m2; clear m2; have j8 := mk_ H; clear H
   go_enter Try.func11, Try.ntmps11
   go_upto_region 12 with (first | ((with_reducible refine gc_ 51 rfl ?_); refine gl_ (some 18) rfl Try.func51 #[.slice A1 l1.length c1, .int .i64 1048576] ?_; (with_reducible refine (laws_szPhaseS.calls _ _ l1 1048576 c7 _ ?a4 ?a5 A5.out).mono ?_); (case a4 => exact cw_ h5.out); (case a5 => exact h8.out); rintro e w' ⟨rfl, ⟨nd, rfl⟩⟩; refine ⟨_, rfl, ?_⟩) | ((with_reducible refine gc_ 52 rfl ?_); refine gl_ (some 23) rfl Try.func52 #[.slice A2 l2.length c2, .int .i64 c7] ?_; (with_reducible refine (laws_szPeakS.calls _ _ l2 c7 d6 _ ?a4 ?a5 A7.out).mono ?_); (case a4 => exact cw_ l3.out); (case a5 => exact l4.out); rintro e w' ⟨rfl, ⟨nd, rfl⟩⟩; refine ⟨_, rfl, ?_⟩) | ((with_reducible refine gc_ 54 rfl ?_); refine gl_ (some 29) rfl Try.func54 #[.slice A1 l1.length c1] ?_; (with_reducible refine (laws_toPhaseS.calls k _ _ l1 g8 _ ?a4 ?a5 A9.out).mono ?_); (case a4 => exact cw_ h5.out); (case a5 => exact h8.out); rintro e t2 ⟨v164, rfl, c9, hb⟩; refine ⟨_, rfl, ?_⟩; have b7 := mk_ (Kd.R_lower c9 (below_size (hw_ HB))); replace HB := hk_ HB hb; (try clear hb); (try clear g3); (try clear hk); (try clear hi); (try clear c9)) | ((with_reducible refine gc_ 55 rfl ?_); refine gl_ (some 31) rfl Try.func55 #[.slice A2 l2.length c2] ?_; (with_reducible refine (laws_toPeakS.calls k _ _ l2 g9 _ ?a4 ?a5 s2.out).mono ?_); (case a4 => exact cw_ (Kd.C_below l3.out HB.out)); (case a5 => exact l4.out); rintro e t3 ⟨v167, rfl, c9, hb⟩; refine ⟨_, rfl, ?_⟩; replace b7 := rb_ b7 hb; have d0 := mk_ (Kd.R_lower c9 (below_size (by exact HB.out))); replace HB := bp_ HB hb; (try clear hb); (try clear g3); (try clear hk); (try clear hi); (try clear c9); obtain ⟨n6, n7, n8⟩ := Kd.R_slice b7.out; subst n8; obtain ⟨n9, o0, o1⟩ := Kd.R_slice d0.out; subst o1) | ((with_reducible refine gc_ 53 rfl ?_); refine gl_ (some 33) rfl Try.func53 #[.int .i64 a0, .slice n6 g8.length n7, .slice n9 g9.length o0, .int .i64 a3] ?_; (with_reducible refine (spec_Clears.calls k a0 _ _ g8 _ _ g9 a3 h2 l7 _ ?a4 ?a5 ?b5 ?b6 s3.out).mono ?_); (case a4 => exact cw_ (rr_ b7)); (case a5 => exact (Kd.R_reads' b7.out).2.1); (case b5 => exact cw_ (rr_ d0)); (case b6 => exact (Kd.R_reads' d0.out).2.1); rintro e w' ⟨rfl, ⟨nd, rfl⟩⟩; refine ⟨_, rfl, ?_⟩) | ((with_reducible refine gc_ 54 rfl ?_); refine gl_ (some 37) rfl Try.func54 #[.slice A1 l1.length c1] ?_; (with_reducible refine (laws_toPhaseS.calls k _ _ l1 b4 _ ?a4 ?a5 s4.out).mono ?_); (case a4 => repeat (first | exact (Kd.C_below h5.out (hw_ HB)) | (with_reducible refine Kd.C_alloc ?_ _) | (with_reducible refine Kd.C_drewN ?_ _) | (with_reducible refine Kd.C_drew ?_))); (case a5 => exact h8.out); rintro e t4 ⟨v172, rfl, c9, hb⟩; refine ⟨_, rfl, ?_⟩; replace d0 := rk_ d0 hb; have d1 := mk_ (Kd.R_lower (Kd.R_new' c9 (Kd.R_lt (kx_ b7))) (below_size (hw_ HB))); replace b7 := mk_ (Kd.R_elder' (kx_ b7) (Kd.R_base c9) hb); replace HB := hk_ HB hb; (try clear hb); (try clear g3); (try clear hk); (try clear hi); (try clear c9)) | ((with_reducible refine gc_ 55 rfl ?_); refine gl_ (some 39) rfl Try.func55 #[.slice A2 l2.length c2] ?_; (with_reducible refine (laws_toPeakS.calls k _ _ l2 b8 _ ?a4 ?a5 s5.out).mono ?_); (case a4 => exact cw_ (Kd.C_below l3.out HB.out)); (case a5 => exact l4.out); rintro e t5 ⟨v175, rfl, c9, hb⟩; refine ⟨_, rfl, ?_⟩; replace b7 := rb_ b7 hb; replace d1 := rb_ d1 hb; have d5 := mk_ (Kd.R_lower (Kd.R_new' c9 (Kd.R_lt (by exact d0.out))) (below_size (by exact HB.out))); replace d0 := mk_ (Kd.R_elder' (by exact d0.out) (Kd.R_base c9) hb); replace HB := bp_ HB hb; (try clear hb); (try clear g3); (try clear hk); (try clear hi); (try clear c9); obtain ⟨h6, h7, o2⟩ := Kd.R_slice d1.out; subst o2; obtain ⟨h9, j1, o3⟩ := Kd.R_slice d5.out; subst o3) | ((with_reducible refine gc_ 56 rfl ?_); refine gl_ (some 45) rfl Try.func56 #[.int .i64 a0, .slice h6 b4.length h7, .slice h9 b8.length j1, .int .i64 a3] ?_; (with_reducible refine (impl_Clears.calls k a0 _ _ b4 _ _ b8 a3 h3 m1 _ ?a4 ?a5 ?b5 ?b6 s6.out).mono ?_); (case a4 => exact cw_ (rr_ d1)); (case a5 => exact (Kd.R_reads' d1.out).2.1); (case b5 => exact cw_ (rr_ d5)); (case b6 => exact (Kd.R_reads' d5.out).2.1); rintro e t6 ⟨rfl, hb⟩; refine ⟨_, rfl, ?_⟩; replace b7 := rb_ b7 hb; replace d0 := rb_ d0 hb; replace d1 := rb_ d1 hb; replace d5 := rb_ d5 hb; replace HB := bp_ HB hb; (try clear hb); (try clear g3); (try clear hk); (try clear hi)))
   (try simp only [Act.put, List.setIfInBounds_toArray, List.set_cons_zero, List.set_cons_succ])
   go_cut [55] (fun v55 wc => ∃ (kq : Nat) (d7 : Bool), v55 = .bool d7 ∧ Aside0 (laws_FnExactClears.j0 kq l1 l2 b4 b8 d7 = some r) ∧ Aside0 (kq ≤ k) ∧ Aside0 (Kd.R k137 137 wc w.heap.size (fun _ => True) (.slice h6 b4.length h7) b4) ∧ Aside0 (Kd.R k134 134 wc w.heap.size (fun _ => True) (.slice h9 b8.length j1) b8) ∧ Aside0 (Below w.heap.size w wc))
   case first =>
    have H := j8.out; clear j8; by_cases j9 : h3 = h2
    ·rw [if_pos j9] at H; have g2 : (h3 == h2) = true := beq_iff_eq.mpr j9; have m3 : (h3 != h2) = false := bne_eq_false_iff_eq.mpr j9; clear j9
     (first | rw [g2] | (simp only [i64_w, i32_w]; rw [g2]) | skip)
     have H' := mk_ H
     clear H; go_wp2; go_meet
     case rel => exact ⟨_, ((m1 != l7)), rf_, H', ⟨by first | omega | exact Nat.le_refl _⟩, km_ d1 (fun _ hk => trivial), km_ d5 (fun _ hk => trivial), ⟨hw_ HB⟩⟩
    ·rw [if_neg j9] at H; have g2 : (h3 == h2) = false := beq_eq_false_iff_ne.mpr j9; have m3 : (h3 != h2) = true := bne_iff_ne.mpr j9
     (first | rw [g2] | (simp only [i64_w, i32_w]; rw [g2]) | skip)
     have H' := mk_ H
     clear H; go_wp2; go_meet
     case rel => exact ⟨_, (true), rf_, H', ⟨by first | omega | exact Nat.le_refl _⟩, km_ d1 (fun _ hk => trivial), km_ d5 (fun _ hk => trivial), ⟨hw_ HB⟩⟩
   case rest =>
    clear j8; (try clear c1); (try clear c2); (try clear c6); (try clear j3); (try clear c8)
    obtain ⟨kq, d7, rfl, HA, s7, a7, a8, HB⟩ := hcut
    cases kq with
    | zero => exact absurd HA.out (by simp [laws_FnExactClears.j0])
    | succ kj14 =>
     have H := HA.out; clear HA
     simp only [laws_FnExactClears.j0] at H
     by_cases m8 : d7 = true
     ·subst m8; rw [if_pos rfl] at H
      obtain rfl := Option.some.inj H; go_wp2
      go_ret
      exact ⟨re_, hw_ HB⟩
     ·replace m8 := Bool.eq_false_iff.mpr m8; subst m8; rw [if_neg (show ¬ (false = true) by decide)] at H; replace H := Option.bind_eq_some_iff.mp H; obtain ⟨d4, m4, H⟩ := H; (try dsimp only at H); have o4 := mk_ m4; clear m4; replace H := Option.bind_eq_some_iff.mp H; obtain ⟨j6, m5, H⟩ := H; (try dsimp only at H); have o5 := mk_ m5; clear m5; by_cases m9 : j6 = true
      ·subst m9; rw [if_pos rfl] at H
       replace H := Option.bind_eq_some_iff.mp H; obtain ⟨d8, m6, H⟩ := H
       (try dsimp only at H); have q6 := mk_ m6; clear m6
       replace H := Option.bind_eq_some_iff.mp H; obtain ⟨j7, m7, H⟩ := H
       (try dsimp only at H); have q7 := mk_ m7; clear m7
       by_cases n0 : j7 = true
       ·subst n0; rw [if_pos rfl] at H
        obtain rfl := Option.some.inj H
        go_wp2_with (first | ((with_reducible refine gc_ 54 rfl ?_); refine gl_ (some 58) rfl Try.func54 #[.slice A1 l1.length c1] ?_; (with_reducible refine (laws_toPhaseS.calls kj14 _ _ l1 d4 _ ?a4 ?a5 o4.out).mono ?_); (case a4 => exact cw_ (Kd.C_below h5.out HB.out)); (case a5 => exact h8.out); rintro e t7 ⟨v180, rfl, c9, hb⟩; refine ⟨_, rfl, ?_⟩; replace a8 := rb_ a8 hb; have a9 := mk_ (Kd.R_lower (Kd.R_new' c9 (Kd.R_lt (by exact a7.out))) (below_size (by exact HB.out))); replace a7 := mk_ (Kd.R_elder' (by exact a7.out) (Kd.R_base c9) hb); replace HB := bp_ HB hb; (try clear hb); (try clear g3); (try clear hk); (try clear hi); (try clear c9); obtain ⟨o6, o7, o8⟩ := Kd.R_slice a9.out; subst o8) | ((with_reducible refine gc_ 57 rfl ?_); refine gl_ (some 59) rfl Try.func57 #[.slice h6 b4.length h7, .slice o6 d4.length o7] ?_; (with_reducible refine (laws_eqPhaseS.calls kj14 _ _ b4 _ _ d4 true _ ?a4 ?a5 ?b5 ?b6 o5.out).mono ?_); (case a4 => exact cw_ (rr_ a7)); (case a5 => exact (Kd.R_reads' a7.out).2.1); (case b5 => exact cw_ (rr_ a9)); (case b6 => exact (Kd.R_reads' a9.out).2.1); rintro e t8 ⟨rfl, hb⟩; refine ⟨_, rfl, ?_⟩; replace a7 := rb_ a7 hb; replace a8 := rb_ a8 hb; replace a9 := rb_ a9 hb; replace HB := bp_ HB hb; (try clear hb); (try clear g3); (try clear hk); (try clear hi)) | ((with_reducible refine gc_ 55 rfl ?_); refine gl_ (some 63) rfl Try.func55 #[.slice A2 l2.length c2] ?_; (with_reducible refine (laws_toPeakS.calls kj14 _ _ l2 d8 _ ?a4 ?a5 q6.out).mono ?_); (case a4 => exact cw_ (Kd.C_below l3.out HB.out)); (case a5 => exact l4.out); rintro e t9 ⟨v184, rfl, c9, hb⟩; refine ⟨_, rfl, ?_⟩; replace a7 := rb_ a7 hb; replace a9 := rb_ a9 hb; have b9 := mk_ (Kd.R_lower (Kd.R_new' c9 (Kd.R_lt (by exact a8.out))) (below_size (by exact HB.out))); replace a8 := mk_ (Kd.R_elder' (by exact a8.out) (Kd.R_base c9) hb); replace HB := bp_ HB hb; (try clear hb); (try clear g3); (try clear hk); (try clear hi); (try clear c9); obtain ⟨o9, p0, p1⟩ := Kd.R_slice b9.out; subst p1) | ((with_reducible refine gc_ 58 rfl ?_); refine gl_ (some 64) rfl Try.func58 #[.slice h9 b8.length j1, .slice o9 d8.length p0] ?_; (with_reducible refine (laws_eqPeakS.calls kj14 _ _ b8 _ _ d8 true _ ?a4 ?a5 ?b5 ?b6 q7.out).mono ?_); (case a4 => exact cw_ (rr_ a8)); (case a5 => exact (Kd.R_reads' a8.out).2.1); (case b5 => exact cw_ (rr_ b9)); (case b6 => exact (Kd.R_reads' b9.out).2.1); rintro e y5 ⟨rfl, hb⟩; refine ⟨_, rfl, ?_⟩; replace a7 := rb_ a7 hb; replace a8 := rb_ a8 hb; replace a9 := rb_ a9 hb; replace b9 := rb_ b9 hb; replace HB := bp_ HB hb; (try clear hb); (try clear g3); (try clear hk); (try clear hi)))
        go_ret
        exact ⟨re_, hw_ HB⟩
       ·replace n0 := Bool.eq_false_iff.mpr n0; subst n0; rw [if_neg (show ¬ (false = true) by decide)] at H; obtain rfl := Option.some.inj H
        go_wp2_with (first | ((with_reducible refine gc_ 54 rfl ?_); refine gl_ (some 58) rfl Try.func54 #[.slice A1 l1.length c1] ?_; (with_reducible refine (laws_toPhaseS.calls kj14 _ _ l1 d4 _ ?a4 ?a5 o4.out).mono ?_); (case a4 => exact cw_ (Kd.C_below h5.out HB.out)); (case a5 => exact h8.out); rintro e y6 ⟨v180, rfl, c9, hb⟩; refine ⟨_, rfl, ?_⟩; replace a8 := rb_ a8 hb; have a9 := mk_ (Kd.R_lower (Kd.R_new' c9 (Kd.R_lt (by exact a7.out))) (below_size (by exact HB.out))); replace a7 := mk_ (Kd.R_elder' (by exact a7.out) (Kd.R_base c9) hb); replace HB := bp_ HB hb; (try clear hb); (try clear g3); (try clear hk); (try clear hi); (try clear c9); obtain ⟨p2, p3, p4⟩ := Kd.R_slice a9.out; subst p4) | ((with_reducible refine gc_ 57 rfl ?_); refine gl_ (some 59) rfl Try.func57 #[.slice h6 b4.length h7, .slice p2 d4.length p3] ?_; (with_reducible refine (laws_eqPhaseS.calls kj14 _ _ b4 _ _ d4 true _ ?a4 ?a5 ?b5 ?b6 o5.out).mono ?_); (case a4 => exact cw_ (rr_ a7)); (case a5 => exact (Kd.R_reads' a7.out).2.1); (case b5 => exact cw_ (rr_ a9)); (case b6 => exact (Kd.R_reads' a9.out).2.1); rintro e y7 ⟨rfl, hb⟩; refine ⟨_, rfl, ?_⟩; replace a7 := rb_ a7 hb; replace a8 := rb_ a8 hb; replace a9 := rb_ a9 hb; replace HB := bp_ HB hb; (try clear hb); (try clear g3); (try clear hk); (try clear hi)) | ((with_reducible refine gc_ 55 rfl ?_); refine gl_ (some 63) rfl Try.func55 #[.slice A2 l2.length c2] ?_; (with_reducible refine (laws_toPeakS.calls kj14 _ _ l2 d8 _ ?a4 ?a5 q6.out).mono ?_); (case a4 => exact cw_ (Kd.C_below l3.out HB.out)); (case a5 => exact l4.out); rintro e y8 ⟨v184, rfl, c9, hb⟩; refine ⟨_, rfl, ?_⟩; replace a7 := rb_ a7 hb; replace a9 := rb_ a9 hb; have b9 := mk_ (Kd.R_lower (Kd.R_new' c9 (Kd.R_lt (by exact a8.out))) (below_size (by exact HB.out))); replace a8 := mk_ (Kd.R_elder' (by exact a8.out) (Kd.R_base c9) hb); replace HB := bp_ HB hb; (try clear hb); (try clear g3); (try clear hk); (try clear hi); (try clear c9); obtain ⟨p5, p6, p7⟩ := Kd.R_slice b9.out; subst p7) | ((with_reducible refine gc_ 58 rfl ?_); refine gl_ (some 64) rfl Try.func58 #[.slice h9 b8.length j1, .slice p5 d8.length p6] ?_; (with_reducible refine (laws_eqPeakS.calls kj14 _ _ b8 _ _ d8 false _ ?a4 ?a5 ?b5 ?b6 q7.out).mono ?_); (case a4 => exact cw_ (rr_ a8)); (case a5 => exact (Kd.R_reads' a8.out).2.1); (case b5 => exact cw_ (rr_ b9)); (case b6 => exact (Kd.R_reads' b9.out).2.1); rintro e y9 ⟨rfl, hb⟩; refine ⟨_, rfl, ?_⟩; replace a7 := rb_ a7 hb; replace a8 := rb_ a8 hb; replace a9 := rb_ a9 hb; replace b9 := rb_ b9 hb; replace HB := bp_ HB hb; (try clear hb); (try clear g3); (try clear hk); (try clear hi)))
        go_ret
        exact ⟨re_, hw_ HB⟩
      ·replace m9 := Bool.eq_false_iff.mpr m9; subst m9; rw [if_neg (show ¬ (false = true) by decide)] at H; obtain rfl := Option.some.inj H
       go_wp2_with (first | ((with_reducible refine gc_ 54 rfl ?_); refine gl_ (some 58) rfl Try.func54 #[.slice A1 l1.length c1] ?_; (with_reducible refine (laws_toPhaseS.calls kj14 _ _ l1 d4 _ ?a4 ?a5 o4.out).mono ?_); (case a4 => exact cw_ (Kd.C_below h5.out HB.out)); (case a5 => exact h8.out); rintro e A3 ⟨v180, rfl, c9, hb⟩; refine ⟨_, rfl, ?_⟩; replace a8 := rb_ a8 hb; have a9 := mk_ (Kd.R_lower (Kd.R_new' c9 (Kd.R_lt (by exact a7.out))) (below_size (by exact HB.out))); replace a7 := mk_ (Kd.R_elder' (by exact a7.out) (Kd.R_base c9) hb); replace HB := bp_ HB hb; (try clear hb); (try clear g3); (try clear hk); (try clear hi); (try clear c9); obtain ⟨p8, p9, q0⟩ := Kd.R_slice a9.out; subst q0) | ((with_reducible refine gc_ 57 rfl ?_); refine gl_ (some 59) rfl Try.func57 #[.slice h6 b4.length h7, .slice p8 d4.length p9] ?_; (with_reducible refine (laws_eqPhaseS.calls kj14 _ _ b4 _ _ d4 false _ ?a4 ?a5 ?b5 ?b6 o5.out).mono ?_); (case a4 => exact cw_ (rr_ a7)); (case a5 => exact (Kd.R_reads' a7.out).2.1); (case b5 => exact cw_ (rr_ a9)); (case b6 => exact (Kd.R_reads' a9.out).2.1); rintro e A4 ⟨rfl, hb⟩; refine ⟨_, rfl, ?_⟩; replace a7 := rb_ a7 hb; replace a8 := rb_ a8 hb; replace a9 := rb_ a9 hb; replace HB := bp_ HB hb; (try clear hb); (try clear g3); (try clear hk); (try clear hi)))
       go_ret
       exact ⟨re_, hw_ HB⟩

end Go.Proofs.Ytnphbpkpjinddaa.QFnExactClears
-- squeezed
