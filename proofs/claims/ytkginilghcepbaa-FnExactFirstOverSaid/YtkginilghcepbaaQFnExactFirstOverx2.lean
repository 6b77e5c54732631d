/- Lean functions that tell what the Go functions used by one law answer, and for each a proof that the Go code comes to just these answers; no condition. Printed by this session's own program over the kit's printer. -/
import Derived.Test.YtkginilghcepbaaWSq
import Derived.Test.YtkginilghcepbaaQFnExactFirstOverx0
import Derived.Test.YtkginilghcepbaaQFnExactFirstOverx1
namespace Go.Proofs.Ytkginilghcepbaa.QFnExactFirstOver
open Go.RowKit Go.Proofs.YtkginilghcepbaaW.PrintWords Go.Proofs.YtkginilghcepbaaW.PrintLast Go.Proofs.YtkginilghcepbaaW.PrintMore
attribute [local go_sem] max2_int min2_int max_two min_two max_three min_three max_four min_four   -- for this text's walks alone
attribute [local go_sem high] go_eql go_neq go_lss go_leq go_gtr go_geq go_store   -- for this text's walks alone
set_option linter.unusedVariables false
set_option linter.unusedSimpArgs false

/-! ### laws_eqMotionS: function 36 -/
def laws_eqMotionS.l0 : Nat → List (S60) → List (S60) → Int → Option (Bool)
 | 0, _, _, _ => none
 | k + 1, x0, x1, x5 => if x5 < (x0.length : Int) then (if 0 ≤ x5 then (if x5 < (x1.length : Int) then ((laws_eqMotion.f k ((rd_T60 x0 x5).f0) ((rd_T60 x0 x5).f1) ((rd_T60 x0 x5).f2) ((rd_T60 x0 x5).f3) ((rd_T60 x1 x5).f0) ((rd_T60 x1 x5).f1) ((rd_T60 x1 x5).f2) ((rd_T60 x1 x5).f3)).bind fun d0 => (if d0 = true then (laws_eqMotionS.l0 k x0 x1 (wrap64 (x5 + 1))) else (some false))) else (none)) else (none)) else (some true)
def laws_eqMotionS.f (k : Nat) (l0 : List (S60)) (l1 : List (S60)) : Option (Bool) := if (l0.length : Int) = (l1.length : Int) then (laws_eqMotionS.l0 k l0 l1 0) else (some false)
theorem laws_eqMotionS.mono_l : ∀ k, (∀ y0 y1 y2, LeO (laws_eqMotionS.l0 k y0 y1 y2) (laws_eqMotionS.l0 (k + 1) y0 y1 y2))
 | 0 => fun _ _ _ r h => by simp [laws_eqMotionS.l0] at h
 | k + 1 => by
  have j6 := laws_eqMotionS.mono_l k
  ·intro y0 y1 y2
   unfold laws_eqMotionS.l0
   repeat' first
   | (with_reducible exact j6 _ _ _)
   | (with_reducible exact laws_eqMotion.mono _ _ _ _ _ _ _ _ _)
   | (with_reducible exact LeO.refl _)
   | (with_reducible exact LeO.none _)
   | (with_reducible refine LeO.ite ?_ ?_)
   | (with_reducible refine LeO.bind ?_ (fun _ => ?_))
   | exact j6 _ _ _
   | exact laws_eqMotion.mono _ _ _ _ _ _ _ _ _
   | exact LeO.none _
   | refine LeO.ite ?_ ?_
   | refine LeO.bind ?_ (fun _ => ?_)
theorem laws_eqMotionS.mono : ∀ a0 a1 k, LeO (laws_eqMotionS.f k a0 a1) (laws_eqMotionS.f (k + 1) a0 a1) := by
 intro a0 a1 k
 have j6 := laws_eqMotionS.mono_l k
 unfold laws_eqMotionS.f
 repeat' first
   | (with_reducible exact j6 _ _ _)
   | (with_reducible exact laws_eqMotion.mono _ _ _ _ _ _ _ _ _)
   | (with_reducible exact LeO.refl _)
   | (with_reducible exact LeO.none _)
   | (with_reducible refine LeO.ite ?_ ?_)
   | (with_reducible refine LeO.bind ?_ (fun _ => ?_))
   | exact j6 _ _ _
   | exact laws_eqMotion.mono _ _ _ _ _ _ _ _ _
   | exact LeO.none _
   | refine LeO.ite ?_ ?_
   | refine LeO.bind ?_ (fun _ => ?_)
def laws_eqMotionS.T6 : Bool × List (List Nat × List Nat) := (true, [([], []), ([], []), ([0, 1], [0, 1]), ([2], [2]), ([], []), ([], []), ([4, 5], [4, 5]), ([6], [6]), ([3, 7], [3, 7]), ([8], [8])])
def laws_eqMotionS.B6 : List Nat := [0, 0, 3, 7, 0, 0, 48, 112, 255, 511]
theorem laws_eqMotionS.tab6 : rtab .any (opsOf Try.f36 6) = laws_eqMotionS.T6 := by kernel_rfl
theorem laws_eqMotionS.bits6 : waitsOk laws_eqMotionS.T6.2 laws_eqMotionS.B6 = true := by kernel_rfl
set_option maxHeartbeats 8000000 in
set_option maxRecDepth 100000 in
theorem laws_eqMotionS.calls (k : Nat) (A0 : Option Addr) (c0 : Nat) (l0 : List (S60)) (A1 : Option Addr) (c1 : Nat) (l1 : List (S60)) (r : Bool) (w : World) (hr0 : Kd.C k60 w A0 l0.length l0) (hc0 : l0.length ≤ c0) (hr1 : Kd.C k60 w A1 l1.length l1) (hc1 : l1.length ≤ c1) (h : laws_eqMotionS.f k l0 l1 = some r) :
  Calls Try.prog 36 #[.slice A0 l0.length c0, .slice A1 l1.length c1] w fun e w' => e = .returned (.bool r) ∧ Below w.heap.size w w' := by
 have p0 := Try.underlying60
 have g9 := mk_ hr0; have h7 := mk_ hc0; clear hr0 hc0; have o2 := mk_ hr1; have p3 := mk_ hc1; clear hr1 hc1; have HB := mk_ (Below.refl w.heap.size w)
 have H : (if (l0.length : Int) = (l1.length : Int) then (laws_eqMotionS.l0 k l0 l1 0) else (some false)) = some r := h
 clear h; by_cases c3 : (l0.length : Int) = (l1.length : Int)
 ·rw [if_pos c3] at H; have l7 : ((l0.length : Int) == (l1.length : Int)) = true := beq_iff_eq.mpr c3; have l8 : ((l0.length : Int) != (l1.length : Int)) = false := bne_eq_false_iff_eq.mpr c3
  have l9 : (l0.length == l1.length) = true := by first | simpa using c3 | (simp at c3 ⊢; omega)
  clear c3
  have H' := mk_ H
  clear H
  go_enter Try.func36, Try.ntmps36
  go_wp2
  go_loopg [5] k (fun kq v5 w' => ∃ (a2 : Int), v5 = .int .i64 a2 ∧ Aside0 (laws_eqMotionS.l0 kq l0 l1 a2 = some r) ∧ Aside0 (kq ≤ k) ∧ Aside0 (Below w.heap.size w w'))
  case atStart => exact ⟨(0), rf_, H', ⟨Nat.le_refl _⟩, ⟨hw_ HB⟩⟩
  case round => as_aux_lemma =>
   clear H'; (try clear c1); (try clear c3)
   obtain ⟨a2, rfl, HA, o3, HB⟩ := hrel
   cases gk with
   | zero => exact absurd HA.out (by simp [laws_eqMotionS.l0])
   | succ k1 =>
    have H := HA.out; clear HA
    simp only [laws_eqMotionS.l0] at H
    by_cases c4 : a2 < (l0.length : Int)
    ·rw [if_pos c4] at H; have j3 : decide (a2 < (l0.length : Int)) = true := decide_eq_true c4; clear c4; by_cases c5 : 0 ≤ a2
     ·rw [if_pos c5] at H; have p1 : decide (0 ≤ a2) = true := decide_eq_true c5; clear c5
      obtain ⟨fr122_0, d2⟩ : ∃ y_ : Fl, y_ = ((rd_T60 l0 a2).f0) := ⟨_, rfl⟩
      replace H : (if a2 < (l1.length : Int) then ((laws_eqMotion.f k1 fr122_0 ((rd_T60 l0 a2).f1) ((rd_T60 l0 a2).f2) ((rd_T60 l0 a2).f3) ((rd_T60 l1 a2).f0) ((rd_T60 l1 a2).f1) ((rd_T60 l1 a2).f2) ((rd_T60 l1 a2).f3)).bind fun d0 => (if d0 = true then (laws_eqMotionS.l0 k1 l0 l1 (wrap64 (a2 + 1))) else (some false))) else (none)) = some r := by first | (rw [d2]; with_reducible exact H) | (have H2_ := (Option.bind_some _ _).symm.trans H; rw [d2]; with_reducible exact H2_) | (have H2_ := (Option.bind_some _ _).symm.trans H; with_reducible exact H2_) | with_reducible exact H | (rw [d2]; exact H) | exact H
      have Nfr122_0 := mk_ d2; clear d2
      obtain ⟨fr122_1, d3⟩ : ∃ y_ : Fl, y_ = ((rd_T60 l0 a2).f1) := ⟨_, rfl⟩
      replace H : (if a2 < (l1.length : Int) then ((laws_eqMotion.f k1 fr122_0 fr122_1 ((rd_T60 l0 a2).f2) ((rd_T60 l0 a2).f3) ((rd_T60 l1 a2).f0) ((rd_T60 l1 a2).f1) ((rd_T60 l1 a2).f2) ((rd_T60 l1 a2).f3)).bind fun d0 => (if d0 = true then (laws_eqMotionS.l0 k1 l0 l1 (wrap64 (a2 + 1))) else (some false))) else (none)) = some r := by first | (rw [d3]; with_reducible exact H) | (have H2_ := (Option.bind_some _ _).symm.trans H; rw [d3]; with_reducible exact H2_) | (have H2_ := (Option.bind_some _ _).symm.trans H; with_reducible exact H2_) | with_reducible exact H | (rw [d3]; exact H) | exact H
      have Nfr122_1 := mk_ d3; clear d3
      obtain ⟨fr122_2, d4⟩ : ∃ y_ : Fl, y_ = ((rd_T60 l0 a2).f2) := ⟨_, rfl⟩
      replace H : (if a2 < (l1.length : Int) then ((laws_eqMotion.f k1 fr122_0 fr122_1 fr122_2 ((rd_T60 l0 a2).f3) ((rd_T60 l1 a2).f0) ((rd_T60 l1 a2).f1) ((rd_T60 l1 a2).f2) ((rd_T60 l1 a2).f3)).bind fun d0 => (if d0 = true then (laws_eqMotionS.l0 k1 l0 l1 (wrap64 (a2 + 1))) else (some false))) else (none)) = some r := by first | (rw [d4]; with_reducible exact H) | (have H2_ := (Option.bind_some _ _).symm.trans H; rw [d4]; with_reducible exact H2_) | (have H2_ := (Option.bind_some _ _).symm.trans H; with_reducible exact H2_) | with_reducible exact H | (rw [d4]; exact H) | exact H
      have Nfr122_2 := mk_ d4; clear d4
      obtain ⟨fr122_3, d5⟩ : ∃ y_ : Fl, y_ = ((rd_T60 l0 a2).f3) := ⟨_, rfl⟩
      replace H : (if a2 < (l1.length : Int) then ((laws_eqMotion.f k1 fr122_0 fr122_1 fr122_2 fr122_3 ((rd_T60 l1 a2).f0) ((rd_T60 l1 a2).f1) ((rd_T60 l1 a2).f2) ((rd_T60 l1 a2).f3)).bind fun d0 => (if d0 = true then (laws_eqMotionS.l0 k1 l0 l1 (wrap64 (a2 + 1))) else (some false))) else (none)) = some r := by first | (rw [d5]; with_reducible exact H) | (have H2_ := (Option.bind_some _ _).symm.trans H; rw [d5]; with_reducible exact H2_) | (have H2_ := (Option.bind_some _ _).symm.trans H; with_reducible exact H2_) | with_reducible exact H | (rw [d5]; exact H) | exact H
      have Nfr122_3 := mk_ d5; clear d5; by_cases c6 : a2 < (l1.length : Int)
      ·rw [if_pos c6] at H; have p2 : decide (a2 < (l1.length : Int)) = true := decide_eq_true c6; clear c6
       obtain ⟨fr123_0, d6⟩ : ∃ y_ : Fl, y_ = ((rd_T60 l1 a2).f0) := ⟨_, rfl⟩
       replace H : ((laws_eqMotion.f k1 fr122_0 fr122_1 fr122_2 fr122_3 fr123_0 ((rd_T60 l1 a2).f1) ((rd_T60 l1 a2).f2) ((rd_T60 l1 a2).f3)).bind fun d0 => (if d0 = true then (laws_eqMotionS.l0 k1 l0 l1 (wrap64 (a2 + 1))) else (some false))) = some r := by first | (rw [d6]; with_reducible exact H) | (have H2_ := (Option.bind_some _ _).symm.trans H; rw [d6]; with_reducible exact H2_) | (have H2_ := (Option.bind_some _ _).symm.trans H; with_reducible exact H2_) | with_reducible exact H | (rw [d6]; exact H) | exact H
       have Nfr123_0 := mk_ d6; clear d6
       obtain ⟨fr123_1, d7⟩ : ∃ y_ : Fl, y_ = ((rd_T60 l1 a2).f1) := ⟨_, rfl⟩
       replace H : ((laws_eqMotion.f k1 fr122_0 fr122_1 fr122_2 fr122_3 fr123_0 fr123_1 ((rd_T60 l1 a2).f2) ((rd_T60 l1 a2).f3)).bind fun d0 => (if d0 = true then (laws_eqMotionS.l0 k1 l0 l1 (wrap64 (a2 + 1))) else (some false))) = some r := by first | (rw [d7]; with_reducible exact H) | (have H2_ := (Option.bind_some _ _).symm.trans H; rw [d7]; with_reducible exact H2_) | (have H2_ := (Option.bind_some _ _).symm.trans H; with_reducible exact H2_) | with_reducible exact H | (rw [d7]; exact H) | exact H
       have Nfr123_1 := mk_ d7; clear d7
       obtain ⟨fr123_2, d8⟩ : ∃ y_ : Fl, y_ = ((rd_T60 l1 a2).f2) := ⟨_, rfl⟩
       replace H : ((laws_eqMotion.f k1 fr122_0 fr122_1 fr122_2 fr122_3 fr123_0 fr123_1 fr123_2 ((rd_T60 l1 a2).f3)).bind fun d0 => (if d0 = true then (laws_eqMotionS.l0 k1 l0 l1 (wrap64 (a2 + 1))) else (some false))) = some r := by first | (rw [d8]; with_reducible exact H) | (have H2_ := (Option.bind_some _ _).symm.trans H; rw [d8]; with_reducible exact H2_) | (have H2_ := (Option.bind_some _ _).symm.trans H; with_reducible exact H2_) | with_reducible exact H | (rw [d8]; exact H) | exact H
       have Nfr123_2 := mk_ d8; clear d8
       obtain ⟨fr123_3, d9⟩ : ∃ y_ : Fl, y_ = ((rd_T60 l1 a2).f3) := ⟨_, rfl⟩
       replace H : ((laws_eqMotion.f k1 fr122_0 fr122_1 fr122_2 fr122_3 fr123_0 fr123_1 fr123_2 fr123_3).bind fun d0 => (if d0 = true then (laws_eqMotionS.l0 k1 l0 l1 (wrap64 (a2 + 1))) else (some false))) = some r := by first | (rw [d9]; with_reducible exact H) | (have H2_ := (Option.bind_some _ _).symm.trans H; rw [d9]; with_reducible exact H2_) | (have H2_ := (Option.bind_some _ _).symm.trans H; with_reducible exact H2_) | with_reducible exact H | (rw [d9]; exact H) | exact H
       have Nfr123_3 := mk_ d9; clear d9; replace H := Option.bind_eq_some_iff.mp H; obtain ⟨d0, j7, H⟩ := H; (try dsimp only at H); have A7 := mk_ j7; clear j7; by_cases c8 : d0 = true
       ·subst c8; rw [if_pos rfl] at H
        have H' := mk_ H
        clear H
        try go_wp2
        replace HB := dH_ HB
        have h2 : 0 ≤ (a2 : Int) := od_
        have h3 : a2 < (l0.length : Int) := od_
        obtain ⟨c2, b_fr122_0, b_fr122_1, b_fr122_2, b_fr122_3, j4, a7, a8, a9, b4, hF122_0, hF122_1, hF122_2, hF122_3⟩ := at_T60 g9.out a2 h2 h3
        have hw122_3 := b4
        have hw122_2 := a9
        have hw122_1 := a8
        have hw122_0 := a7
        have hF_fr122_0 := hF122_0.trans Nfr122_0.out.symm
        clear hF122_0
        have hF_fr122_1 := hF122_1.trans Nfr122_1.out.symm
        clear hF122_1
        have hF_fr122_2 := hF122_2.trans Nfr122_2.out.symm
        clear hF122_2
        have hF_fr122_3 := hF122_3.trans Nfr122_3.out.symm
        clear hF122_3; cases j4
        replace a7 := (HB.out.cell (World.block_lt_of_cell? w _ a7)).trans a7
        replace a8 := (HB.out.cell (World.block_lt_of_cell? w _ a8)).trans a8
        replace a9 := (HB.out.cell (World.block_lt_of_cell? w _ a9)).trans a9
        replace b4 := (HB.out.cell (World.block_lt_of_cell? w _ b4)).trans b4
        replace h2 := eq_true h2; replace h3 := eq_true h3
        have h4 : 0 ≤ (a2 : Int) := od_
        have h5 : a2 < (l1.length : Int) := od_
        obtain ⟨c7, b_fr123_0, b_fr123_1, b_fr123_2, b_fr123_3, j5, b5, b6, b7, b8, hF123_0, hF123_1, hF123_2, hF123_3⟩ := at_T60 o2.out a2 h4 h5
        have hw123_3 := b8
        have hw123_2 := b7
        have hw123_1 := b6
        have hw123_0 := b5
        have hF_fr123_0 := hF123_0.trans Nfr123_0.out.symm
        clear hF123_0
        have hF_fr123_1 := hF123_1.trans Nfr123_1.out.symm
        clear hF123_1
        have hF_fr123_2 := hF123_2.trans Nfr123_2.out.symm
        clear hF123_2
        have hF_fr123_3 := hF123_3.trans Nfr123_3.out.symm
        clear hF123_3; cases j5
        replace b5 := (HB.out.cell (World.block_lt_of_cell? w _ b5)).trans b5
        replace b6 := (HB.out.cell (World.block_lt_of_cell? w _ b6)).trans b6
        replace b7 := (HB.out.cell (World.block_lt_of_cell? w _ b7)).trans b7
        replace b8 := (HB.out.cell (World.block_lt_of_cell? w _ b8)).trans b8
        replace h4 := eq_true h4; replace h5 := eq_true h5
        refine start_ (n := 10) (S := fun w' => w'.cell? (c2.add ((a2).toNat * 4)) = some (.float .f64 b_fr122_0) ∧ w'.cell? ⟨(c2.add ((a2).toNat * 4)).block, (c2.add ((a2).toNat * 4)).off + 1, none⟩ = some (.float .f64 b_fr122_1) ∧ w'.cell? ⟨(c2.add ((a2).toNat * 4)).block, (c2.add ((a2).toNat * 4)).off + 2, none⟩ = some (.float .f64 b_fr122_2) ∧ w'.cell? ⟨(c2.add ((a2).toNat * 4)).block, (c2.add ((a2).toNat * 4)).off + 3, none⟩ = some (.float .f64 b_fr122_3) ∧ w'.cell? (c7.add ((a2).toNat * 4)) = some (.float .f64 b_fr123_0) ∧ w'.cell? ⟨(c7.add ((a2).toNat * 4)).block, (c7.add ((a2).toNat * 4)).off + 1, none⟩ = some (.float .f64 b_fr123_1) ∧ w'.cell? ⟨(c7.add ((a2).toNat * 4)).block, (c7.add ((a2).toNat * 4)).off + 2, none⟩ = some (.float .f64 b_fr123_2) ∧ w'.cell? ⟨(c7.add ((a2).toNat * 4)).block, (c7.add ((a2).toNat * 4)).off + 3, none⟩ = some (.float .f64 b_fr123_3)) (ds := []) (bs_ 10 0) (by kernel_rfl) rfl (by kernel_rfl) ⟨((HB.out.cell (World.block_lt_of_cell? w _ hw122_0)).trans hw122_0), ((HB.out.cell (World.block_lt_of_cell? w _ hw122_1)).trans hw122_1), ((HB.out.cell (World.block_lt_of_cell? w _ hw122_2)).trans hw122_2), ((HB.out.cell (World.block_lt_of_cell? w _ hw122_3)).trans hw122_3), ((HB.out.cell (World.block_lt_of_cell? w _ hw123_0)).trans hw123_0), ((HB.out.cell (World.block_lt_of_cell? w _ hw123_1)).trans hw123_1), ((HB.out.cell (World.block_lt_of_cell? w _ hw123_2)).trans hw123_2), ((HB.out.cell (World.block_lt_of_cell? w _ hw123_3)).trans hw123_3)⟩ (fun hHeld => ?_); refine with_tabW laws_eqMotionS.tab6 laws_eqMotionS.bits6 (fun HT_ HW_ => ?_)
        generalize wr.drew = w9 at HB a7 a8 a9 b4 b5 b6 b7 b8 hHeld ⊢
        refine pu_ HT_ 0 17 (bs_ 10 1) ?_; refine pu_ HT_ 1 18 (bs_ 10 3) ?_; refine pu_ HT_ 2 19 (bs_ 10 7) ?_; refine pu_ HT_ 4 21 (bs_ 10 23) ?_; refine pu_ HT_ 5 22 (bs_ 10 55) ?_; refine pu_ HT_ 6 23 (bs_ 10 119) ?_; refine tk_ HT_ HW_ 3 20 (bs_ 10 127) hHeld ?_; refine tk_ HT_ HW_ 7 24 (bs_ 10 255) hHeld ?_
        refine one_ (i := 8) (N := some 25) (bs_ 10 511) rfl rfl (one_of HT_.out (by kernel_rfl)) (by decide) (fun K hK => ?_)
        refine gs_ Try.func78 #[.agg #[.float .f64 b_fr122_0, .float .f64 b_fr122_1, .float .f64 b_fr122_2, .float .f64 b_fr122_3], .agg #[.float .f64 b_fr123_0, .float .f64 b_fr123_1, .float .f64 b_fr123_2, .float .f64 b_fr123_3]] ?_
        with_reducible refine (laws_eqMotion.calls k1 b_fr122_0 fr122_0 b_fr122_1 fr122_1 b_fr122_2 fr122_2 b_fr122_3 fr122_3 b_fr123_0 fr123_0 b_fr123_1 fr123_1 b_fr123_2 fr123_2 b_fr123_3 fr123_3 true _ ?a3 ?a4 ?b9 ?g6 ?h8 ?h9 ?j0 ?j1 A7.out).mono ?_
        (case a3 => exact hF_fr122_0)
        (case a4 => exact hF_fr122_1)
        (case b9 => exact hF_fr122_2)
        (case g6 => exact hF_fr122_3)
        (case h8 => exact hF_fr123_0)
        (case h9 => exact hF_fr123_1)
        (case j0 => exact hF_fr123_2)
        (case j1 => exact hF_fr123_3)
        rintro e p4 ⟨rfl, hb⟩
        refine ⟨_, rfl, ?_⟩
        replace HB := hk_ HB hb
        (try clear hb); (try clear h6); (try clear hk); (try clear hi)
        refine hK.out _ _ ⟨((HB.out.cell (World.block_lt_of_cell? w _ hw122_0)).trans hw122_0), ((HB.out.cell (World.block_lt_of_cell? w _ hw122_1)).trans hw122_1), ((HB.out.cell (World.block_lt_of_cell? w _ hw122_2)).trans hw122_2), ((HB.out.cell (World.block_lt_of_cell? w _ hw122_3)).trans hw122_3), ((HB.out.cell (World.block_lt_of_cell? w _ hw123_0)).trans hw123_0), ((HB.out.cell (World.block_lt_of_cell? w _ hw123_1)).trans hw123_1), ((HB.out.cell (World.block_lt_of_cell? w _ hw123_2)).trans hw123_2), ((HB.out.cell (World.block_lt_of_cell? w _ hw123_3)).trans hw123_3)⟩ (fun hHeld => ?_)
        clear hK K; refine nm_ 25 ?_; refine pu_ HT_ 9 26 (bs_ 10 1023) ?_
        refine done_ (done_of HT_.out (by kernel_rfl)) ?_
        try go_wp2
        go_roundg k1
        case measure => have := o3.out; omega
        case rel => exact ⟨(wrap64 (a2 + 1)), rf_, H', ⟨by have := o3.out; omega⟩, ⟨hw_ HB⟩⟩
       ·replace c8 := Bool.eq_false_iff.mpr c8; subst c8; rw [if_neg (show ¬ (false = true) by decide)] at H; obtain rfl := Option.some.inj H
        try go_wp2
        replace HB := dH_ HB
        have h2 : 0 ≤ (a2 : Int) := od_
        have h3 : a2 < (l0.length : Int) := od_
        obtain ⟨c2, b_fr122_0, b_fr122_1, b_fr122_2, b_fr122_3, j4, a7, a8, a9, b4, hF122_0, hF122_1, hF122_2, hF122_3⟩ := at_T60 g9.out a2 h2 h3
        have hw122_3 := b4
        have hw122_2 := a9
        have hw122_1 := a8
        have hw122_0 := a7
        have hF_fr122_0 := hF122_0.trans Nfr122_0.out.symm
        clear hF122_0
        have hF_fr122_1 := hF122_1.trans Nfr122_1.out.symm
        clear hF122_1
        have hF_fr122_2 := hF122_2.trans Nfr122_2.out.symm
        clear hF122_2
        have hF_fr122_3 := hF122_3.trans Nfr122_3.out.symm
        clear hF122_3; cases j4
        replace a7 := (HB.out.cell (World.block_lt_of_cell? w _ a7)).trans a7
        replace a8 := (HB.out.cell (World.block_lt_of_cell? w _ a8)).trans a8
        replace a9 := (HB.out.cell (World.block_lt_of_cell? w _ a9)).trans a9
        replace b4 := (HB.out.cell (World.block_lt_of_cell? w _ b4)).trans b4
        replace h2 := eq_true h2; replace h3 := eq_true h3
        have h4 : 0 ≤ (a2 : Int) := od_
        have h5 : a2 < (l1.length : Int) := od_
        obtain ⟨c7, b_fr123_0, b_fr123_1, b_fr123_2, b_fr123_3, j5, b5, b6, b7, b8, hF123_0, hF123_1, hF123_2, hF123_3⟩ := at_T60 o2.out a2 h4 h5
        have hw123_3 := b8
        have hw123_2 := b7
        have hw123_1 := b6
        have hw123_0 := b5
        have hF_fr123_0 := hF123_0.trans Nfr123_0.out.symm
        clear hF123_0
        have hF_fr123_1 := hF123_1.trans Nfr123_1.out.symm
        clear hF123_1
        have hF_fr123_2 := hF123_2.trans Nfr123_2.out.symm
        clear hF123_2
        have hF_fr123_3 := hF123_3.trans Nfr123_3.out.symm
        clear hF123_3; cases j5
        replace b5 := (HB.out.cell (World.block_lt_of_cell? w _ b5)).trans b5
        replace b6 := (HB.out.cell (World.block_lt_of_cell? w _ b6)).trans b6
        replace b7 := (HB.out.cell (World.block_lt_of_cell? w _ b7)).trans b7
        replace b8 := (HB.out.cell (World.block_lt_of_cell? w _ b8)).trans b8
        replace h4 := eq_true h4; replace h5 := eq_true h5
        refine start_ (n := 10) (S := fun w' => w'.cell? (c2.add ((a2).toNat * 4)) = some (.float .f64 b_fr122_0) ∧ w'.cell? ⟨(c2.add ((a2).toNat * 4)).block, (c2.add ((a2).toNat * 4)).off + 1, none⟩ = some (.float .f64 b_fr122_1) ∧ w'.cell? ⟨(c2.add ((a2).toNat * 4)).block, (c2.add ((a2).toNat * 4)).off + 2, none⟩ = some (.float .f64 b_fr122_2) ∧ w'.cell? ⟨(c2.add ((a2).toNat * 4)).block, (c2.add ((a2).toNat * 4)).off + 3, none⟩ = some (.float .f64 b_fr122_3) ∧ w'.cell? (c7.add ((a2).toNat * 4)) = some (.float .f64 b_fr123_0) ∧ w'.cell? ⟨(c7.add ((a2).toNat * 4)).block, (c7.add ((a2).toNat * 4)).off + 1, none⟩ = some (.float .f64 b_fr123_1) ∧ w'.cell? ⟨(c7.add ((a2).toNat * 4)).block, (c7.add ((a2).toNat * 4)).off + 2, none⟩ = some (.float .f64 b_fr123_2) ∧ w'.cell? ⟨(c7.add ((a2).toNat * 4)).block, (c7.add ((a2).toNat * 4)).off + 3, none⟩ = some (.float .f64 b_fr123_3)) (ds := []) (bs_ 10 0) (by kernel_rfl) rfl (by kernel_rfl) ⟨((HB.out.cell (World.block_lt_of_cell? w _ hw122_0)).trans hw122_0), ((HB.out.cell (World.block_lt_of_cell? w _ hw122_1)).trans hw122_1), ((HB.out.cell (World.block_lt_of_cell? w _ hw122_2)).trans hw122_2), ((HB.out.cell (World.block_lt_of_cell? w _ hw122_3)).trans hw122_3), ((HB.out.cell (World.block_lt_of_cell? w _ hw123_0)).trans hw123_0), ((HB.out.cell (World.block_lt_of_cell? w _ hw123_1)).trans hw123_1), ((HB.out.cell (World.block_lt_of_cell? w _ hw123_2)).trans hw123_2), ((HB.out.cell (World.block_lt_of_cell? w _ hw123_3)).trans hw123_3)⟩ (fun hHeld => ?_); refine with_tabW laws_eqMotionS.tab6 laws_eqMotionS.bits6 (fun HT_ HW_ => ?_)
        generalize wr.drew = p5 at HB a7 a8 a9 b4 b5 b6 b7 b8 hHeld ⊢
        refine pu_ HT_ 0 17 (bs_ 10 1) ?_; refine pu_ HT_ 1 18 (bs_ 10 3) ?_; refine pu_ HT_ 2 19 (bs_ 10 7) ?_; refine pu_ HT_ 4 21 (bs_ 10 23) ?_; refine pu_ HT_ 5 22 (bs_ 10 55) ?_; refine pu_ HT_ 6 23 (bs_ 10 119) ?_; refine tk_ HT_ HW_ 3 20 (bs_ 10 127) hHeld ?_; refine tk_ HT_ HW_ 7 24 (bs_ 10 255) hHeld ?_
        refine one_ (i := 8) (N := some 25) (bs_ 10 511) rfl rfl (one_of HT_.out (by kernel_rfl)) (by decide) (fun K hK => ?_)
        refine gs_ Try.func78 #[.agg #[.float .f64 b_fr122_0, .float .f64 b_fr122_1, .float .f64 b_fr122_2, .float .f64 b_fr122_3], .agg #[.float .f64 b_fr123_0, .float .f64 b_fr123_1, .float .f64 b_fr123_2, .float .f64 b_fr123_3]] ?_
        with_reducible refine (laws_eqMotion.calls k1 b_fr122_0 fr122_0 b_fr122_1 fr122_1 b_fr122_2 fr122_2 b_fr122_3 fr122_3 b_fr123_0 fr123_0 b_fr123_1 fr123_1 b_fr123_2 fr123_2 b_fr123_3 fr123_3 false _ ?a3 ?a4 ?b9 ?g6 ?h8 ?h9 ?j0 ?j1 A7.out).mono ?_
        (case a3 => exact hF_fr122_0)
        (case a4 => exact hF_fr122_1)
        (case b9 => exact hF_fr122_2)
        (case g6 => exact hF_fr122_3)
        (case h8 => exact hF_fr123_0)
        (case h9 => exact hF_fr123_1)
        (case j0 => exact hF_fr123_2)
        (case j1 => exact hF_fr123_3)
        rintro e p6 ⟨rfl, hb⟩
        refine ⟨_, rfl, ?_⟩
        replace HB := hk_ HB hb
        (try clear hb); (try clear h6); (try clear hk); (try clear hi)
        refine hK.out _ _ ⟨((HB.out.cell (World.block_lt_of_cell? w _ hw122_0)).trans hw122_0), ((HB.out.cell (World.block_lt_of_cell? w _ hw122_1)).trans hw122_1), ((HB.out.cell (World.block_lt_of_cell? w _ hw122_2)).trans hw122_2), ((HB.out.cell (World.block_lt_of_cell? w _ hw122_3)).trans hw122_3), ((HB.out.cell (World.block_lt_of_cell? w _ hw123_0)).trans hw123_0), ((HB.out.cell (World.block_lt_of_cell? w _ hw123_1)).trans hw123_1), ((HB.out.cell (World.block_lt_of_cell? w _ hw123_2)).trans hw123_2), ((HB.out.cell (World.block_lt_of_cell? w _ hw123_3)).trans hw123_3)⟩ (fun hHeld => ?_)
        clear hK K; refine nm_ 25 ?_; refine pu_ HT_ 9 26 (bs_ 10 1023) ?_
        refine done_ (done_of HT_.out (by kernel_rfl)) ?_
        try go_wp2
        go_ret
        exact ⟨re_, hw_ HB⟩
      ·rw [if_neg c6] at H
       exact absurd H (by simp)
     ·rw [if_neg c5] at H
      exact absurd H (by simp)
    ·rw [if_neg c4] at H; have j3 : decide (a2 < (l0.length : Int)) = false := decide_eq_false c4; clear c4; obtain rfl := Option.some.inj H; go_wp2; go_ret
     exact ⟨re_, hw_ HB⟩
 ·rw [if_neg c3] at H; have l7 : ((l0.length : Int) == (l1.length : Int)) = false := beq_eq_false_iff_ne.mpr c3; have l8 : ((l0.length : Int) != (l1.length : Int)) = true := bne_iff_ne.mpr c3
  have l9 : (l0.length == l1.length) = false := by first | simpa using c3 | (simp at c3 ⊢; omega)
  obtain rfl := Option.some.inj H
  go_enter Try.func36, Try.ntmps36
  go_wp2; go_ret
  exact ⟨re_, hw_ HB⟩

/-! ### laws_FnExactFirstOver: function 8 -/
def laws_FnExactFirstOver.f (k : Nat) (l0 : List (S118)) (a1 : Fl) : Option (Bool) := (laws_szMotionS.f l0 1048576).bind fun g7 => (if g7 < 0 then (some true) else ((laws_toMotionS.f k l0).bind fun g3 => ((spec_FirstOver.f k g3 a1).bind fun g4 => ((laws_toMotionS.f k l0).bind fun d1 => ((impl_FirstOver.f k d1 a1).bind fun g5 => (if g5 = g4 then ((laws_toMotionS.f k l0).bind fun g8 => ((laws_eqMotionS.f k d1 g8).bind fun j2 => (if j2 = true then (some true) else (some false)))) else (some false)))))))
theorem laws_FnExactFirstOver.mono : ∀ a0 a1 k, LeO (laws_FnExactFirstOver.f k a0 a1) (laws_FnExactFirstOver.f (k + 1) a0 a1) := by
 intro a0 a1 k
 unfold laws_FnExactFirstOver.f
 repeat' first
   | (with_reducible exact impl_FirstOver.mono _ _ _)
   | (with_reducible exact laws_eqMotionS.mono _ _ _)
   | (with_reducible exact laws_toMotionS.mono _ _)
   | (with_reducible exact spec_FirstOver.mono _ _ _)
   | (with_reducible exact LeO.refl _)
   | (with_reducible exact LeO.none _)
   | (with_reducible refine LeO.ite ?_ ?_)
   | (with_reducible refine LeO.bind ?_ (fun _ => ?_))
   | exact impl_FirstOver.mono _ _ _
   | exact laws_eqMotionS.mono _ _ _
   | exact laws_toMotionS.mono _ _
   | exact spec_FirstOver.mono _ _ _
   | exact LeO.none _
   | refine LeO.ite ?_ ?_
   | refine LeO.bind ?_ (fun _ => ?_)
set_option maxHeartbeats 8000000 in
set_option maxRecDepth 100000 in
theorem laws_FnExactFirstOver.calls (k : Nat) (A0 : Option Addr) (c0 : Nat) (l0 : List (S118)) (b_a1 : Nat) (a1 : Fl) (r : Bool) (w : World) (hr0 : Kd.C k118 w A0 l0.length l0) (hc0 : l0.length ≤ c0) (hF_a1 : cn .f64 b_a1 = a1) (h : laws_FnExactFirstOver.f k l0 a1 = some r) :
  Calls Try.prog 8 #[.slice A0 l0.length c0, .float .f64 b_a1] w fun e w' => e = .returned (.bool r) ∧ Below w.heap.size w w' := by
 have g9 := mk_ hr0; have h7 := mk_ hc0; clear hr0 hc0; have HB := mk_ (Below.refl w.heap.size w)
 have H : ((laws_szMotionS.f l0 1048576).bind fun g7 => (if g7 < 0 then (some true) else ((laws_toMotionS.f k l0).bind fun g3 => ((spec_FirstOver.f k g3 a1).bind fun g4 => ((laws_toMotionS.f k l0).bind fun d1 => ((impl_FirstOver.f k d1 a1).bind fun g5 => (if g5 = g4 then ((laws_toMotionS.f k l0).bind fun g8 => ((laws_eqMotionS.f k d1 g8).bind fun j2 => (if j2 = true then (some true) else (some false)))) else (some false)))))))) = some r := h
 clear h; replace H := Option.bind_eq_some_iff.mp H; obtain ⟨g7, o4, H⟩ := H; (try dsimp only at H); have A3 := mk_ o4; clear o4; by_cases c4 : g7 < 0
 ·rw [if_pos c4] at H; have j3 : decide (g7 < 0) = true := decide_eq_true c4; clear c4; obtain rfl := Option.some.inj H
  go_enter Try.func8, Try.ntmps8
  go_wp2_with (first | ((with_reducible refine gc_ 33 rfl ?_); refine gl_ (some 11) rfl Try.func33 #[.slice A0 l0.length c0, .int .i64 1048576] ?_; (with_reducible refine (laws_szMotionS.calls _ _ l0 1048576 g7 _ ?a3 ?a4 A3.out).mono ?_); (case a3 => exact cw_ g9.out); (case a4 => exact h7.out); rintro e w' ⟨rfl, ⟨nd, rfl⟩⟩; refine ⟨_, rfl, ?_⟩))
  go_ret
  exact ⟨re_, hw_ HB⟩
 ·rw [if_neg c4] at H; have j3 : decide (g7 < 0) = false := decide_eq_false c4; clear c4; replace H := Option.bind_eq_some_iff.mp H; obtain ⟨g3, o5, H⟩ := H; (try dsimp only at H); have A5 := mk_ o5; clear o5; replace H := Option.bind_eq_some_iff.mp H; obtain ⟨g4, o6, H⟩ := H; (try dsimp only at H); have A6 := mk_ o6; clear o6; replace H := Option.bind_eq_some_iff.mp H; obtain ⟨d1, j7, H⟩ := H; (try dsimp only at H); have A7 := mk_ j7; clear j7; replace H := Option.bind_eq_some_iff.mp H; obtain ⟨g5, o7, H⟩ := H; (try dsimp only at H); have A8 := mk_ o7; clear o7; by_cases c9 : g5 = g4
  ·rw [if_pos c9] at H; have m0 : (g5 == g4) = true := beq_iff_eq.mpr c9; have m1 : (g5 != g4) = false := bne_eq_false_iff_eq.mpr c9; clear c9; replace H := Option.bind_eq_some_iff.mp H; obtain ⟨g8, j8, H⟩ := H; (try dsimp only at H); have o8 := mk_ j8; clear j8; replace H := Option.bind_eq_some_iff.mp H; obtain ⟨j2, j9, H⟩ := H; (try dsimp only at H); have o9 := mk_ j9; clear j9; by_cases l6 : j2 = true
   ·subst l6; rw [if_pos rfl] at H
    obtain rfl := Option.some.inj H
    go_enter Try.func8, Try.ntmps8
    go_wp2_with (first | ((with_reducible refine gc_ 33 rfl ?_); refine gl_ (some 11) rfl Try.func33 #[.slice A0 l0.length c0, .int .i64 1048576] ?_; (with_reducible refine (laws_szMotionS.calls _ _ l0 1048576 g7 _ ?a3 ?a4 A3.out).mono ?_); (case a3 => exact cw_ g9.out); (case a4 => exact h7.out); rintro e w' ⟨rfl, ⟨nd, rfl⟩⟩; refine ⟨_, rfl, ?_⟩) | ((with_reducible refine gc_ 35 rfl ?_); refine gl_ (some 15) rfl Try.func35 #[.slice A0 l0.length c0] ?_; (with_reducible refine (laws_toMotionS.calls k _ _ l0 g3 _ ?a3 ?a4 A5.out).mono ?_); (case a3 => exact cw_ g9.out); (case a4 => exact h7.out); rintro e p7 ⟨v127, rfl, g2, hb⟩; refine ⟨_, rfl, ?_⟩; have a5 := mk_ (Kd.R_lower g2 (below_size (hw_ HB))); replace HB := hk_ HB hb; (try clear hb); (try clear h6); (try clear hk); (try clear hi); (try clear g2); obtain ⟨m2, m3, m4⟩ := Kd.R_slice a5.out; subst m4) | ((with_reducible refine gc_ 34 rfl ?_); refine gl_ (some 17) rfl Try.func34 #[.slice m2 g3.length m3, .float .f64 b_a1] ?_; (with_reducible refine (spec_FirstOver.calls k _ _ g3 b_a1 a1 g4 _ ?a3 ?a4 ?b9 A6.out).mono ?_); (case a3 => exact cw_ (rr_ a5)); (case a4 => exact (Kd.R_reads' a5.out).2.1); (case b9 => exact hF_a1); rintro e w' ⟨rfl, ⟨nd, rfl⟩⟩; refine ⟨_, rfl, ?_⟩) | ((with_reducible refine gc_ 35 rfl ?_); refine gl_ (some 19) rfl Try.func35 #[.slice A0 l0.length c0] ?_; (with_reducible refine (laws_toMotionS.calls k _ _ l0 d1 _ ?a3 ?a4 A7.out).mono ?_); (case a3 => repeat (first | exact (Kd.C_below g9.out (hw_ HB)) | (with_reducible refine Kd.C_alloc ?_ _) | (with_reducible refine Kd.C_drewN ?_ _) | (with_reducible refine Kd.C_drew ?_))); (case a4 => exact h7.out); rintro e p8 ⟨v131, rfl, g2, hb⟩; refine ⟨_, rfl, ?_⟩; have a6 := mk_ (Kd.R_lower (Kd.R_new' g2 (Kd.R_lt (kx_ a5))) (below_size (hw_ HB))); replace a5 := mk_ (Kd.R_elder' (kx_ a5) (Kd.R_base g2) hb); replace HB := hk_ HB hb; (try clear hb); (try clear h6); (try clear hk); (try clear hi); (try clear g2); obtain ⟨l2, l3, m5⟩ := Kd.R_slice a6.out; subst m5) | ((with_reducible refine gc_ 29 rfl ?_); refine gl_ (some 22) rfl Try.func29 #[.slice l2 d1.length l3, .float .f64 b_a1] ?_; (with_reducible refine (impl_FirstOver.calls k _ _ d1 b_a1 a1 g5 _ ?a3 ?a4 ?b9 A8.out).mono ?_); (case a3 => exact cw_ (rr_ a6)); (case a4 => exact (Kd.R_reads' a6.out).2.1); (case b9 => exact hF_a1); rintro e p9 ⟨rfl, hb⟩; refine ⟨_, rfl, ?_⟩; replace a5 := rb_ a5 hb; replace a6 := rb_ a6 hb; replace HB := bp_ HB hb; (try clear hb); (try clear h6); (try clear hk); (try clear hi)) | ((with_reducible refine gc_ 35 rfl ?_); refine gl_ (some 28) rfl Try.func35 #[.slice A0 l0.length c0] ?_; (with_reducible refine (laws_toMotionS.calls k _ _ l0 g8 _ ?a3 ?a4 o8.out).mono ?_); (case a3 => exact cw_ (Kd.C_below g9.out HB.out)); (case a4 => exact h7.out); rintro e q0 ⟨v135, rfl, g2, hb⟩; refine ⟨_, rfl, ?_⟩; have g1 := mk_ (Kd.R_lower (Kd.R_new' (Kd.R_new' g2 (Kd.R_lt (by exact a5.out))) (Kd.R_lt (by exact a6.out))) (below_size (by exact HB.out))); replace a5 := mk_ (Kd.R_elder' (by exact a5.out) (Kd.R_base g2) hb); replace a6 := mk_ (Kd.R_elder' (by exact a6.out) (Kd.R_base g2) hb); replace HB := bp_ HB hb; (try clear hb); (try clear h6); (try clear hk); (try clear hi); (try clear g2); obtain ⟨m6, m7, m8⟩ := Kd.R_slice g1.out; subst m8) | ((with_reducible refine gc_ 36 rfl ?_); refine gl_ (some 29) rfl Try.func36 #[.slice l2 d1.length l3, .slice m6 g8.length m7] ?_; (with_reducible refine (laws_eqMotionS.calls k _ _ d1 _ _ g8 true _ ?a3 ?a4 ?b9 ?g6 o9.out).mono ?_); (case a3 => exact cw_ (rr_ a6)); (case a4 => exact (Kd.R_reads' a6.out).2.1); (case b9 => exact cw_ (rr_ g1)); (case g6 => exact (Kd.R_reads' g1.out).2.1); rintro e q1 ⟨rfl, hb⟩; refine ⟨_, rfl, ?_⟩; replace a5 := rb_ a5 hb; replace a6 := rb_ a6 hb; replace g1 := rb_ g1 hb; replace HB := bp_ HB hb; (try clear hb); (try clear h6); (try clear hk); (try clear hi)))
    go_ret
    exact ⟨re_, hw_ HB⟩
   ·replace l6 := Bool.eq_false_iff.mpr l6; subst l6; rw [if_neg (show ¬ (false = true) by decide)] at H; obtain rfl := Option.some.inj H
    go_enter Try.func8, Try.ntmps8
    go_wp2_with (first | ((with_reducible refine gc_ 33 rfl ?_); refine gl_ (some 11) rfl Try.func33 #[.slice A0 l0.length c0, .int .i64 1048576] ?_; (with_reducible refine (laws_szMotionS.calls _ _ l0 1048576 g7 _ ?a3 ?a4 A3.out).mono ?_); (case a3 => exact cw_ g9.out); (case a4 => exact h7.out); rintro e w' ⟨rfl, ⟨nd, rfl⟩⟩; refine ⟨_, rfl, ?_⟩) | ((with_reducible refine gc_ 35 rfl ?_); refine gl_ (some 15) rfl Try.func35 #[.slice A0 l0.length c0] ?_; (with_reducible refine (laws_toMotionS.calls k _ _ l0 g3 _ ?a3 ?a4 A5.out).mono ?_); (case a3 => exact cw_ g9.out); (case a4 => exact h7.out); rintro e q2 ⟨v127, rfl, g2, hb⟩; refine ⟨_, rfl, ?_⟩; have a5 := mk_ (Kd.R_lower g2 (below_size (hw_ HB))); replace HB := hk_ HB hb; (try clear hb); (try clear h6); (try clear hk); (try clear hi); (try clear g2); obtain ⟨m9, n0, n1⟩ := Kd.R_slice a5.out; subst n1) | ((with_reducible refine gc_ 34 rfl ?_); refine gl_ (some 17) rfl Try.func34 #[.slice m9 g3.length n0, .float .f64 b_a1] ?_; (with_reducible refine (spec_FirstOver.calls k _ _ g3 b_a1 a1 g4 _ ?a3 ?a4 ?b9 A6.out).mono ?_); (case a3 => exact cw_ (rr_ a5)); (case a4 => exact (Kd.R_reads' a5.out).2.1); (case b9 => exact hF_a1); rintro e w' ⟨rfl, ⟨nd, rfl⟩⟩; refine ⟨_, rfl, ?_⟩) | ((with_reducible refine gc_ 35 rfl ?_); refine gl_ (some 19) rfl Try.func35 #[.slice A0 l0.length c0] ?_; (with_reducible refine (laws_toMotionS.calls k _ _ l0 d1 _ ?a3 ?a4 A7.out).mono ?_); (case a3 => repeat (first | exact (Kd.C_below g9.out (hw_ HB)) | (with_reducible refine Kd.C_alloc ?_ _) | (with_reducible refine Kd.C_drewN ?_ _) | (with_reducible refine Kd.C_drew ?_))); (case a4 => exact h7.out); rintro e q3 ⟨v131, rfl, g2, hb⟩; refine ⟨_, rfl, ?_⟩; have a6 := mk_ (Kd.R_lower (Kd.R_new' g2 (Kd.R_lt (kx_ a5))) (below_size (hw_ HB))); replace a5 := mk_ (Kd.R_elder' (kx_ a5) (Kd.R_base g2) hb); replace HB := hk_ HB hb; (try clear hb); (try clear h6); (try clear hk); (try clear hi); (try clear g2); obtain ⟨l4, l5, n2⟩ := Kd.R_slice a6.out; subst n2) | ((with_reducible refine gc_ 29 rfl ?_); refine gl_ (some 22) rfl Try.func29 #[.slice l4 d1.length l5, .float .f64 b_a1] ?_; (with_reducible refine (impl_FirstOver.calls k _ _ d1 b_a1 a1 g5 _ ?a3 ?a4 ?b9 A8.out).mono ?_); (case a3 => exact cw_ (rr_ a6)); (case a4 => exact (Kd.R_reads' a6.out).2.1); (case b9 => exact hF_a1); rintro e q4 ⟨rfl, hb⟩; refine ⟨_, rfl, ?_⟩; replace a5 := rb_ a5 hb; replace a6 := rb_ a6 hb; replace HB := bp_ HB hb; (try clear hb); (try clear h6); (try clear hk); (try clear hi)) | ((with_reducible refine gc_ 35 rfl ?_); refine gl_ (some 28) rfl Try.func35 #[.slice A0 l0.length c0] ?_; (with_reducible refine (laws_toMotionS.calls k _ _ l0 g8 _ ?a3 ?a4 o8.out).mono ?_); (case a3 => exact cw_ (Kd.C_below g9.out HB.out)); (case a4 => exact h7.out); rintro e q5 ⟨v135, rfl, g2, hb⟩; refine ⟨_, rfl, ?_⟩; have g1 := mk_ (Kd.R_lower (Kd.R_new' (Kd.R_new' g2 (Kd.R_lt (by exact a5.out))) (Kd.R_lt (by exact a6.out))) (below_size (by exact HB.out))); replace a5 := mk_ (Kd.R_elder' (by exact a5.out) (Kd.R_base g2) hb); replace a6 := mk_ (Kd.R_elder' (by exact a6.out) (Kd.R_base g2) hb); replace HB := bp_ HB hb; (try clear hb); (try clear h6); (try clear hk); (try clear hi); (try clear g2); obtain ⟨n3, n4, n5⟩ := Kd.R_slice g1.out; subst n5) | ((with_reducible refine gc_ 36 rfl ?_); refine gl_ (some 29) rfl Try.func36 #[.slice l4 d1.length l5, .slice n3 g8.length n4] ?_; (with_reducible refine (laws_eqMotionS.calls k _ _ d1 _ _ g8 false _ ?a3 ?a4 ?b9 ?g6 o9.out).mono ?_); (case a3 => exact cw_ (rr_ a6)); (case a4 => exact (Kd.R_reads' a6.out).2.1); (case b9 => exact cw_ (rr_ g1)); (case g6 => exact (Kd.R_reads' g1.out).2.1); rintro e q6 ⟨rfl, hb⟩; refine ⟨_, rfl, ?_⟩; replace a5 := rb_ a5 hb; replace a6 := rb_ a6 hb; replace g1 := rb_ g1 hb; replace HB := bp_ HB hb; (try clear hb); (try clear h6); (try clear hk); (try clear hi)))
    go_ret
    exact ⟨re_, hw_ HB⟩
  ·rw [if_neg c9] at H; have m0 : (g5 == g4) = false := beq_eq_false_iff_ne.mpr c9; have m1 : (g5 != g4) = true := bne_iff_ne.mpr c9; obtain rfl := Option.some.inj H
   go_enter Try.func8, Try.ntmps8
   go_wp2_with (first | ((with_reducible refine gc_ 33 rfl ?_); refine gl_ (some 11) rfl Try.func33 #[.slice A0 l0.length c0, .int .i64 1048576] ?_; (with_reducible refine (laws_szMotionS.calls _ _ l0 1048576 g7 _ ?a3 ?a4 A3.out).mono ?_); (case a3 => exact cw_ g9.out); (case a4 => exact h7.out); rintro e w' ⟨rfl, ⟨nd, rfl⟩⟩; refine ⟨_, rfl, ?_⟩) | ((with_reducible refine gc_ 35 rfl ?_); refine gl_ (some 15) rfl Try.func35 #[.slice A0 l0.length c0] ?_; (with_reducible refine (laws_toMotionS.calls k _ _ l0 g3 _ ?a3 ?a4 A5.out).mono ?_); (case a3 => exact cw_ g9.out); (case a4 => exact h7.out); rintro e q7 ⟨v127, rfl, g2, hb⟩; refine ⟨_, rfl, ?_⟩; have a5 := mk_ (Kd.R_lower g2 (below_size (hw_ HB))); replace HB := hk_ HB hb; (try clear hb); (try clear h6); (try clear hk); (try clear hi); (try clear g2); obtain ⟨n6, n7, n8⟩ := Kd.R_slice a5.out; subst n8) | ((with_reducible refine gc_ 34 rfl ?_); refine gl_ (some 17) rfl Try.func34 #[.slice n6 g3.length n7, .float .f64 b_a1] ?_; (with_reducible refine (spec_FirstOver.calls k _ _ g3 b_a1 a1 g4 _ ?a3 ?a4 ?b9 A6.out).mono ?_); (case a3 => exact cw_ (rr_ a5)); (case a4 => exact (Kd.R_reads' a5.out).2.1); (case b9 => exact hF_a1); rintro e w' ⟨rfl, ⟨nd, rfl⟩⟩; refine ⟨_, rfl, ?_⟩) | ((with_reducible refine gc_ 35 rfl ?_); refine gl_ (some 19) rfl Try.func35 #[.slice A0 l0.length c0] ?_; (with_reducible refine (laws_toMotionS.calls k _ _ l0 d1 _ ?a3 ?a4 A7.out).mono ?_); (case a3 => repeat (first | exact (Kd.C_below g9.out (hw_ HB)) | (with_reducible refine Kd.C_alloc ?_ _) | (with_reducible refine Kd.C_drewN ?_ _) | (with_reducible refine Kd.C_drew ?_))); (case a4 => exact h7.out); rintro e q8 ⟨v131, rfl, g2, hb⟩; refine ⟨_, rfl, ?_⟩; have a6 := mk_ (Kd.R_lower (Kd.R_new' g2 (Kd.R_lt (kx_ a5))) (below_size (hw_ HB))); replace a5 := mk_ (Kd.R_elder' (kx_ a5) (Kd.R_base g2) hb); replace HB := hk_ HB hb; (try clear hb); (try clear h6); (try clear hk); (try clear hi); (try clear g2); obtain ⟨n9, o0, o1⟩ := Kd.R_slice a6.out; subst o1) | ((with_reducible refine gc_ 29 rfl ?_); refine gl_ (some 22) rfl Try.func29 #[.slice n9 d1.length o0, .float .f64 b_a1] ?_; (with_reducible refine (impl_FirstOver.calls k _ _ d1 b_a1 a1 g5 _ ?a3 ?a4 ?b9 A8.out).mono ?_); (case a3 => exact cw_ (rr_ a6)); (case a4 => exact (Kd.R_reads' a6.out).2.1); (case b9 => exact hF_a1); rintro e q9 ⟨rfl, hb⟩; refine ⟨_, rfl, ?_⟩; replace a5 := rb_ a5 hb; replace a6 := rb_ a6 hb; replace HB := bp_ HB hb; (try clear hb); (try clear h6); (try clear hk); (try clear hi)))
   go_ret
   exact ⟨re_, hw_ HB⟩

end Go.Proofs.Ytkginilghcepbaa.QFnExactFirstOver
-- squeezed
