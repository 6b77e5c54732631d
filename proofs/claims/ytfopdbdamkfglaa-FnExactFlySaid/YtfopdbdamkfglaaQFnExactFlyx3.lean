/- Lean functions that tell what the Go functions used by one law answer, and for each a proof that the Go code comes to just these answers; no condition. Printed by this session's own program over the kit's printer. -/
import Derived.Test.YtfopdbdamkfglaaQFnExactFlyx0
import Derived.Test.YtfopdbdamkfglaaQFnExactFlyx2
namespace Go.Proofs.Ytfopdbdamkfglaa.QFnExactFly
open Go.RowKit Go.Proofs.YtfopdbdamkfglaaW.PrintWords Go.Proofs.YtfopdbdamkfglaaW.PrintLast Go.Proofs.YtfopdbdamkfglaaW.PrintMore
attribute [local go_sem] max2_int min2_int max_two min_two max_three min_three max_four min_four   -- for this text's walks alone
attribute [local go_sem high] go_eql go_neq go_lss go_leq go_gtr go_geq go_store   -- for this text's walks alone
set_option linter.unusedVariables false
set_option linter.unusedSimpArgs false

/-! ### laws_eqMotionS: function 45 -/
def laws_eqMotionS.l0 : Nat → List (S66) → List (S66) → Int → Option (Bool)
  | 0, _, _, _ => none
  | k + 1, x0, x1, x5 => if x5 < (x0.length : Int) then (if 0 ≤ x5 then (if x5 < (x1.length : Int) then ((laws_eqMotion.f k ((rd_T66 x0 x5).f0) ((rd_T66 x0 x5).f1) ((rd_T66 x0 x5).f2) ((rd_T66 x0 x5).f3) ((rd_T66 x1 x5).f0) ((rd_T66 x1 x5).f1) ((rd_T66 x1 x5).f2) ((rd_T66 x1 x5).f3)).bind fun t191 => (if t191 = true then (laws_eqMotionS.l0 k x0 x1 (wrap64 (x5 + 1))) else (some false))) else (none)) else (none)) else (some true)
def laws_eqMotionS.f (k : Nat) (l0 : List (S66)) (l1 : List (S66)) : Option (Bool) := if (l0.length : Int) = (l1.length : Int) then (laws_eqMotionS.l0 k l0 l1 0) else (some false)
theorem laws_eqMotionS.mono_l : ∀ k, (∀ y0 y1 y2, LeO (laws_eqMotionS.l0 k y0 y1 y2) (laws_eqMotionS.l0 (k + 1) y0 y1 y2))
  | 0 => fun _ _ _ r h => by simp [laws_eqMotionS.l0] at h
  | k + 1 => by
    have ih0 := laws_eqMotionS.mono_l k
    · intro y0 y1 y2
      unfold laws_eqMotionS.l0
      repeat' first
      | (with_reducible exact ih0 _ _ _)
      | (with_reducible exact laws_eqMotion.mono _ _ _ _ _ _ _ _ _)
      | (with_reducible exact LeO.refl _)
      | (with_reducible exact LeO.none _)
      | (with_reducible refine LeO.ite ?_ ?_)
      | (with_reducible refine LeO.bind ?_ (fun _ => ?_))
      | exact ih0 _ _ _
      | exact laws_eqMotion.mono _ _ _ _ _ _ _ _ _
      | exact LeO.none _
      | refine LeO.ite ?_ ?_
      | refine LeO.bind ?_ (fun _ => ?_)
theorem laws_eqMotionS.mono : ∀ a0 a1 k, LeO (laws_eqMotionS.f k a0 a1) (laws_eqMotionS.f (k + 1) a0 a1) := by
  intro a0 a1 k
  have ih0 := laws_eqMotionS.mono_l k
  unfold laws_eqMotionS.f
  repeat' first
      | (with_reducible exact ih0 _ _ _)
      | (with_reducible exact laws_eqMotion.mono _ _ _ _ _ _ _ _ _)
      | (with_reducible exact LeO.refl _)
      | (with_reducible exact LeO.none _)
      | (with_reducible refine LeO.ite ?_ ?_)
      | (with_reducible refine LeO.bind ?_ (fun _ => ?_))
      | exact ih0 _ _ _
      | exact laws_eqMotion.mono _ _ _ _ _ _ _ _ _
      | exact LeO.none _
      | refine LeO.ite ?_ ?_
      | refine LeO.bind ?_ (fun _ => ?_)
def laws_eqMotionS.T6 : Bool × List (List Nat × List Nat) := (true, [([], []), ([], []), ([0, 1], [0, 1]), ([2], [2]), ([], []), ([], []), ([4, 5], [4, 5]), ([6], [6]), ([3, 7], [3, 7]), ([8], [8])])
def laws_eqMotionS.B6 : List Nat := [0, 0, 3, 7, 0, 0, 48, 112, 255, 511]
theorem laws_eqMotionS.tab6 : rtab .any (opsOf Try.f45 6) = laws_eqMotionS.T6 := by kernel_rfl
theorem laws_eqMotionS.bits6 : waitsOk laws_eqMotionS.T6.2 laws_eqMotionS.B6 = true := by kernel_rfl
set_option maxHeartbeats 8000000 in
set_option maxRecDepth 100000 in
theorem laws_eqMotionS.calls (k : Nat) (A0 : Option Addr) (c0 : Nat) (l0 : List (S66)) (A1 : Option Addr) (c1 : Nat) (l1 : List (S66)) (r : Bool) (w : World) (hr0 : Kd.C k66 w A0 l0.length l0) (hc0 : l0.length ≤ c0) (hr1 : Kd.C k66 w A1 l1.length l1) (hc1 : l1.length ≤ c1) (h : laws_eqMotionS.f k l0 l1 = some r) :
    Calls Try.prog 45 #[.slice A0 l0.length c0, .slice A1 l1.length c1] w fun e w' => e = .returned (.bool r) ∧ Below w.heap.size w w' := by
  have hu66 := Try.underlying66
  have HR0 := Aside0.mk hr0
  have HC0 := Aside0.mk hc0
  clear hr0 hc0
  have HR1 := Aside0.mk hr1
  have HC1 := Aside0.mk hc1
  clear hr1 hc1
  have HB := Aside0.mk (Below.refl w.heap.size w)
  have H : (if (l0.length : Int) = (l1.length : Int) then (laws_eqMotionS.l0 k l0 l1 0) else (some false)) = some r := h
  clear h
  by_cases c3 : (l0.length : Int) = (l1.length : Int)
  · rw [if_pos c3] at H
    have c3b0 : ((l0.length : Int) == (l1.length : Int)) = true := beq_iff_eq.mpr c3
    have c3b1 : ((l0.length : Int) != (l1.length : Int)) = false := bne_eq_false_iff_eq.mpr c3
    have c3b2 : (l0.length == l1.length) = true := by first | simpa using c3 | (simp at c3 ⊢; omega)
    clear c3
    have H' := Aside0.mk H
    clear H
    go_enter Try.func45, Try.ntmps45
    go_wp2
    go_loopg [5] k (fun kq v5 w' => ∃ (x5_1 : Int), v5 = .int .i64 x5_1 ∧ Aside0 (laws_eqMotionS.l0 kq l0 l1 x5_1 = some r) ∧ Aside0 (kq ≤ k) ∧ Aside0 (Below w.heap.size w w'))
    case atStart => exact ⟨(0), (by first | rfl | (simp; done) | (simp [*]; done)), H', ⟨Nat.le_refl _⟩, ⟨by repeat (first | (with_reducible first | exact HB.out | apply below_alloc | apply pw_below_drewN | apply below_drew1) | exact HB.out)⟩⟩
    case round =>
      clear H'
      try clear c1
      try clear p2
      try clear c3
      try clear c3b0
      try clear c3b1
      try clear c3b2
      obtain ⟨x5_1, rfl, HA, HK1, HB⟩ := hrel
      cases gk with
      | zero => exact absurd HA.out (by simp [laws_eqMotionS.l0])
      | succ k1 =>
        have H := HA.out
        clear HA
        simp only [laws_eqMotionS.l0] at H
        by_cases c4 : x5_1 < (l0.length : Int)
        · rw [if_pos c4] at H
          have c4b0 : decide (x5_1 < (l0.length : Int)) = true := decide_eq_true c4
          clear c4
          by_cases c5 : 0 ≤ x5_1
          · rw [if_pos c5] at H
            have c5b0 : decide (0 ≤ x5_1) = true := decide_eq_true c5
            clear c5
            obtain ⟨fr189_0, hfr189_0⟩ : ∃ y_ : Fl, y_ = ((rd_T66 l0 x5_1).f0) := ⟨_, rfl⟩
            replace H : (if x5_1 < (l1.length : Int) then ((laws_eqMotion.f k1 fr189_0 ((rd_T66 l0 x5_1).f1) ((rd_T66 l0 x5_1).f2) ((rd_T66 l0 x5_1).f3) ((rd_T66 l1 x5_1).f0) ((rd_T66 l1 x5_1).f1) ((rd_T66 l1 x5_1).f2) ((rd_T66 l1 x5_1).f3)).bind fun t191 => (if t191 = true then (laws_eqMotionS.l0 k1 l0 l1 (wrap64 (x5_1 + 1))) else (some false))) else (none)) = some r := by first | (rw [hfr189_0]; with_reducible exact H) | (have H2_ := (Option.bind_some _ _).symm.trans H; rw [hfr189_0]; with_reducible exact H2_) | (have H2_ := (Option.bind_some _ _).symm.trans H; with_reducible exact H2_) | with_reducible exact H | (rw [hfr189_0]; exact H) | exact H
            have Nfr189_0 := Aside0.mk hfr189_0
            clear hfr189_0
            obtain ⟨fr189_1, hfr189_1⟩ : ∃ y_ : Fl, y_ = ((rd_T66 l0 x5_1).f1) := ⟨_, rfl⟩
            replace H : (if x5_1 < (l1.length : Int) then ((laws_eqMotion.f k1 fr189_0 fr189_1 ((rd_T66 l0 x5_1).f2) ((rd_T66 l0 x5_1).f3) ((rd_T66 l1 x5_1).f0) ((rd_T66 l1 x5_1).f1) ((rd_T66 l1 x5_1).f2) ((rd_T66 l1 x5_1).f3)).bind fun t191 => (if t191 = true then (laws_eqMotionS.l0 k1 l0 l1 (wrap64 (x5_1 + 1))) else (some false))) else (none)) = some r := by first | (rw [hfr189_1]; with_reducible exact H) | (have H2_ := (Option.bind_some _ _).symm.trans H; rw [hfr189_1]; with_reducible exact H2_) | (have H2_ := (Option.bind_some _ _).symm.trans H; with_reducible exact H2_) | with_reducible exact H | (rw [hfr189_1]; exact H) | exact H
            have Nfr189_1 := Aside0.mk hfr189_1
            clear hfr189_1
            obtain ⟨fr189_2, hfr189_2⟩ : ∃ y_ : Fl, y_ = ((rd_T66 l0 x5_1).f2) := ⟨_, rfl⟩
            replace H : (if x5_1 < (l1.length : Int) then ((laws_eqMotion.f k1 fr189_0 fr189_1 fr189_2 ((rd_T66 l0 x5_1).f3) ((rd_T66 l1 x5_1).f0) ((rd_T66 l1 x5_1).f1) ((rd_T66 l1 x5_1).f2) ((rd_T66 l1 x5_1).f3)).bind fun t191 => (if t191 = true then (laws_eqMotionS.l0 k1 l0 l1 (wrap64 (x5_1 + 1))) else (some false))) else (none)) = some r := by first | (rw [hfr189_2]; with_reducible exact H) | (have H2_ := (Option.bind_some _ _).symm.trans H; rw [hfr189_2]; with_reducible exact H2_) | (have H2_ := (Option.bind_some _ _).symm.trans H; with_reducible exact H2_) | with_reducible exact H | (rw [hfr189_2]; exact H) | exact H
            have Nfr189_2 := Aside0.mk hfr189_2
            clear hfr189_2
            obtain ⟨fr189_3, hfr189_3⟩ : ∃ y_ : Fl, y_ = ((rd_T66 l0 x5_1).f3) := ⟨_, rfl⟩
            replace H : (if x5_1 < (l1.length : Int) then ((laws_eqMotion.f k1 fr189_0 fr189_1 fr189_2 fr189_3 ((rd_T66 l1 x5_1).f0) ((rd_T66 l1 x5_1).f1) ((rd_T66 l1 x5_1).f2) ((rd_T66 l1 x5_1).f3)).bind fun t191 => (if t191 = true then (laws_eqMotionS.l0 k1 l0 l1 (wrap64 (x5_1 + 1))) else (some false))) else (none)) = some r := by first | (rw [hfr189_3]; with_reducible exact H) | (have H2_ := (Option.bind_some _ _).symm.trans H; rw [hfr189_3]; with_reducible exact H2_) | (have H2_ := (Option.bind_some _ _).symm.trans H; with_reducible exact H2_) | with_reducible exact H | (rw [hfr189_3]; exact H) | exact H
            have Nfr189_3 := Aside0.mk hfr189_3
            clear hfr189_3
            by_cases c6 : x5_1 < (l1.length : Int)
            · rw [if_pos c6] at H
              have c6b0 : decide (x5_1 < (l1.length : Int)) = true := decide_eq_true c6
              clear c6
              obtain ⟨fr190_0, hfr190_0⟩ : ∃ y_ : Fl, y_ = ((rd_T66 l1 x5_1).f0) := ⟨_, rfl⟩
              replace H : ((laws_eqMotion.f k1 fr189_0 fr189_1 fr189_2 fr189_3 fr190_0 ((rd_T66 l1 x5_1).f1) ((rd_T66 l1 x5_1).f2) ((rd_T66 l1 x5_1).f3)).bind fun t191 => (if t191 = true then (laws_eqMotionS.l0 k1 l0 l1 (wrap64 (x5_1 + 1))) else (some false))) = some r := by first | (rw [hfr190_0]; with_reducible exact H) | (have H2_ := (Option.bind_some _ _).symm.trans H; rw [hfr190_0]; with_reducible exact H2_) | (have H2_ := (Option.bind_some _ _).symm.trans H; with_reducible exact H2_) | with_reducible exact H | (rw [hfr190_0]; exact H) | exact H
              have Nfr190_0 := Aside0.mk hfr190_0
              clear hfr190_0
              obtain ⟨fr190_1, hfr190_1⟩ : ∃ y_ : Fl, y_ = ((rd_T66 l1 x5_1).f1) := ⟨_, rfl⟩
              replace H : ((laws_eqMotion.f k1 fr189_0 fr189_1 fr189_2 fr189_3 fr190_0 fr190_1 ((rd_T66 l1 x5_1).f2) ((rd_T66 l1 x5_1).f3)).bind fun t191 => (if t191 = true then (laws_eqMotionS.l0 k1 l0 l1 (wrap64 (x5_1 + 1))) else (some false))) = some r := by first | (rw [hfr190_1]; with_reducible exact H) | (have H2_ := (Option.bind_some _ _).symm.trans H; rw [hfr190_1]; with_reducible exact H2_) | (have H2_ := (Option.bind_some _ _).symm.trans H; with_reducible exact H2_) | with_reducible exact H | (rw [hfr190_1]; exact H) | exact H
              have Nfr190_1 := Aside0.mk hfr190_1
              clear hfr190_1
              obtain ⟨fr190_2, hfr190_2⟩ : ∃ y_ : Fl, y_ = ((rd_T66 l1 x5_1).f2) := ⟨_, rfl⟩
              replace H : ((laws_eqMotion.f k1 fr189_0 fr189_1 fr189_2 fr189_3 fr190_0 fr190_1 fr190_2 ((rd_T66 l1 x5_1).f3)).bind fun t191 => (if t191 = true then (laws_eqMotionS.l0 k1 l0 l1 (wrap64 (x5_1 + 1))) else (some false))) = some r := by first | (rw [hfr190_2]; with_reducible exact H) | (have H2_ := (Option.bind_some _ _).symm.trans H; rw [hfr190_2]; with_reducible exact H2_) | (have H2_ := (Option.bind_some _ _).symm.trans H; with_reducible exact H2_) | with_reducible exact H | (rw [hfr190_2]; exact H) | exact H
              have Nfr190_2 := Aside0.mk hfr190_2
              clear hfr190_2
              obtain ⟨fr190_3, hfr190_3⟩ : ∃ y_ : Fl, y_ = ((rd_T66 l1 x5_1).f3) := ⟨_, rfl⟩
              replace H : ((laws_eqMotion.f k1 fr189_0 fr189_1 fr189_2 fr189_3 fr190_0 fr190_1 fr190_2 fr190_3).bind fun t191 => (if t191 = true then (laws_eqMotionS.l0 k1 l0 l1 (wrap64 (x5_1 + 1))) else (some false))) = some r := by first | (rw [hfr190_3]; with_reducible exact H) | (have H2_ := (Option.bind_some _ _).symm.trans H; rw [hfr190_3]; with_reducible exact H2_) | (have H2_ := (Option.bind_some _ _).symm.trans H; with_reducible exact H2_) | with_reducible exact H | (rw [hfr190_3]; exact H) | exact H
              have Nfr190_3 := Aside0.mk hfr190_3
              clear hfr190_3
              replace H := Option.bind_eq_some_iff.mp H
              obtain ⟨t191, A70, H⟩ := H
              replace H : (if t191 = true then (laws_eqMotionS.l0 k1 l0 l1 (wrap64 (x5_1 + 1))) else (some false)) = some r := H
              have A7 := Aside0.mk A70
              clear A70
              by_cases c8 : t191 = true
              · subst c8
                have H1 : (laws_eqMotionS.l0 k1 l0 l1 (wrap64 (x5_1 + 1))) = some r := by rw [if_pos rfl] at H; exact H
                clear H
                have H := H1
                clear H1
                have H' := Aside0.mk H
                clear H
                try go_wp2
                have n0_ := Aside0.mk (below_drew1 HB.out)
                clear HB
                have HB := n0_
                clear n0_
                have p189 : 0 ≤ (x5_1 : Int) := of_decide_eq_true (by first | (with_reducible assumption) | assumption)
                have q189 : x5_1 < (l0.length : Int) := of_decide_eq_true (by first | (with_reducible assumption) | assumption)
                obtain ⟨ad189, b_fr189_0, b_fr189_1, b_fr189_2, b_fr189_3, e189, hx189_0, hx189_1, hx189_2, hx189_3, hF189_0, hF189_1, hF189_2, hF189_3⟩ := at_T66 HR0.out x5_1 p189 q189
                have hw189_3 := hx189_3
                have hw189_2 := hx189_2
                have hw189_1 := hx189_1
                have hw189_0 := hx189_0
                have hF_fr189_0 := hF189_0.trans Nfr189_0.out.symm
                clear hF189_0
                have hF_fr189_1 := hF189_1.trans Nfr189_1.out.symm
                clear hF189_1
                have hF_fr189_2 := hF189_2.trans Nfr189_2.out.symm
                clear hF189_2
                have hF_fr189_3 := hF189_3.trans Nfr189_3.out.symm
                clear hF189_3
                cases e189
                replace hx189_0 := (HB.out.cell (World.block_lt_of_cell? w _ hx189_0)).trans hx189_0
                replace hx189_1 := (HB.out.cell (World.block_lt_of_cell? w _ hx189_1)).trans hx189_1
                replace hx189_2 := (HB.out.cell (World.block_lt_of_cell? w _ hx189_2)).trans hx189_2
                replace hx189_3 := (HB.out.cell (World.block_lt_of_cell? w _ hx189_3)).trans hx189_3
                replace p189 := eq_true p189
                replace q189 := eq_true q189
                have p190 : 0 ≤ (x5_1 : Int) := of_decide_eq_true (by first | (with_reducible assumption) | assumption)
                have q190 : x5_1 < (l1.length : Int) := of_decide_eq_true (by first | (with_reducible assumption) | assumption)
                obtain ⟨ad190, b_fr190_0, b_fr190_1, b_fr190_2, b_fr190_3, e190, hx190_0, hx190_1, hx190_2, hx190_3, hF190_0, hF190_1, hF190_2, hF190_3⟩ := at_T66 HR1.out x5_1 p190 q190
                have hw190_3 := hx190_3
                have hw190_2 := hx190_2
                have hw190_1 := hx190_1
                have hw190_0 := hx190_0
                have hF_fr190_0 := hF190_0.trans Nfr190_0.out.symm
                clear hF190_0
                have hF_fr190_1 := hF190_1.trans Nfr190_1.out.symm
                clear hF190_1
                have hF_fr190_2 := hF190_2.trans Nfr190_2.out.symm
                clear hF190_2
                have hF_fr190_3 := hF190_3.trans Nfr190_3.out.symm
                clear hF190_3
                cases e190
                replace hx190_0 := (HB.out.cell (World.block_lt_of_cell? w _ hx190_0)).trans hx190_0
                replace hx190_1 := (HB.out.cell (World.block_lt_of_cell? w _ hx190_1)).trans hx190_1
                replace hx190_2 := (HB.out.cell (World.block_lt_of_cell? w _ hx190_2)).trans hx190_2
                replace hx190_3 := (HB.out.cell (World.block_lt_of_cell? w _ hx190_3)).trans hx190_3
                replace p190 := eq_true p190
                replace q190 := eq_true q190
                refine start_ (n := 10) (S := fun w' => w'.cell? (ad189.add ((x5_1).toNat * 4)) = some (.float .f64 b_fr189_0) ∧ w'.cell? ⟨(ad189.add ((x5_1).toNat * 4)).block, (ad189.add ((x5_1).toNat * 4)).off + 1, none⟩ = some (.float .f64 b_fr189_1) ∧ w'.cell? ⟨(ad189.add ((x5_1).toNat * 4)).block, (ad189.add ((x5_1).toNat * 4)).off + 2, none⟩ = some (.float .f64 b_fr189_2) ∧ w'.cell? ⟨(ad189.add ((x5_1).toNat * 4)).block, (ad189.add ((x5_1).toNat * 4)).off + 3, none⟩ = some (.float .f64 b_fr189_3) ∧ w'.cell? (ad190.add ((x5_1).toNat * 4)) = some (.float .f64 b_fr190_0) ∧ w'.cell? ⟨(ad190.add ((x5_1).toNat * 4)).block, (ad190.add ((x5_1).toNat * 4)).off + 1, none⟩ = some (.float .f64 b_fr190_1) ∧ w'.cell? ⟨(ad190.add ((x5_1).toNat * 4)).block, (ad190.add ((x5_1).toNat * 4)).off + 2, none⟩ = some (.float .f64 b_fr190_2) ∧ w'.cell? ⟨(ad190.add ((x5_1).toNat * 4)).block, (ad190.add ((x5_1).toNat * 4)).off + 3, none⟩ = some (.float .f64 b_fr190_3)) (ds := []) #[false, false, false, false, false, false, false, false, false, false] (by kernel_rfl) rfl rfl ⟨((HB.out.cell (World.block_lt_of_cell? w _ hw189_0)).trans hw189_0), ((HB.out.cell (World.block_lt_of_cell? w _ hw189_1)).trans hw189_1), ((HB.out.cell (World.block_lt_of_cell? w _ hw189_2)).trans hw189_2), ((HB.out.cell (World.block_lt_of_cell? w _ hw189_3)).trans hw189_3), ((HB.out.cell (World.block_lt_of_cell? w _ hw190_0)).trans hw190_0), ((HB.out.cell (World.block_lt_of_cell? w _ hw190_1)).trans hw190_1), ((HB.out.cell (World.block_lt_of_cell? w _ hw190_2)).trans hw190_2), ((HB.out.cell (World.block_lt_of_cell? w _ hw190_3)).trans hw190_3)⟩ (fun hHeld => ?_); refine with_tabW laws_eqMotionS.tab6 laws_eqMotionS.bits6 (fun HT_ HW_ => ?_)
                generalize wr.drew = w9 at HB hx189_0 hx189_1 hx189_2 hx189_3 hx190_0 hx190_1 hx190_2 hx190_3 hHeld ⊢
                refine pure_ (i := 0) (N := some 17) (v := ?_) (a' := ?_) #[true, false, false, false, false, false, false, false, false, false] rfl rfl (any_of HT_.out (by kernel_rfl)) (fun _ _ _ h => h) (Or.inl ⟨by rfl, ?_⟩) ?_ ?_
                rotate_left
                · intro w'
                  go_simp
                  with_reducible rfl
                rotate_left
                · simp only [Act.put, List.setIfInBounds_toArray, List.set_cons_zero, List.set_cons_succ, i64_w, i32_w]
                  rfl
                refine pure_ (i := 1) (N := some 18) (v := ?_) (a' := ?_) #[true, true, false, false, false, false, false, false, false, false] rfl rfl (any_of HT_.out (by kernel_rfl)) (fun _ _ _ h => h) (Or.inl ⟨by rfl, ?_⟩) ?_ ?_
                rotate_left
                · intro w'
                  go_simp
                  with_reducible rfl
                rotate_left
                · simp only [Act.put, List.setIfInBounds_toArray, List.set_cons_zero, List.set_cons_succ, i64_w, i32_w]
                  rfl
                refine pure_ (i := 2) (N := some 19) (v := ?_) (a' := ?_) #[true, true, true, false, false, false, false, false, false, false] rfl rfl (any_of HT_.out (by kernel_rfl)) (fun _ _ _ h => h) (Or.inl ⟨by rfl, ?_⟩) ?_ ?_
                rotate_left
                · intro w'
                  go_simp
                  with_reducible rfl
                rotate_left
                · simp only [Act.put, List.setIfInBounds_toArray, List.set_cons_zero, List.set_cons_succ, i64_w, i32_w]
                  rfl
                refine pure_ (i := 4) (N := some 21) (v := ?_) (a' := ?_) #[true, true, true, false, true, false, false, false, false, false] rfl rfl (any_of HT_.out (by kernel_rfl)) (fun _ _ _ h => h) (Or.inl ⟨by rfl, ?_⟩) ?_ ?_
                rotate_left
                · intro w'
                  go_simp
                  with_reducible rfl
                rotate_left
                · simp only [Act.put, List.setIfInBounds_toArray, List.set_cons_zero, List.set_cons_succ, i64_w, i32_w]
                  rfl
                refine pure_ (i := 5) (N := some 22) (v := ?_) (a' := ?_) #[true, true, true, false, true, true, false, false, false, false] rfl rfl (any_of HT_.out (by kernel_rfl)) (fun _ _ _ h => h) (Or.inl ⟨by rfl, ?_⟩) ?_ ?_
                rotate_left
                · intro w'
                  go_simp
                  with_reducible rfl
                rotate_left
                · simp only [Act.put, List.setIfInBounds_toArray, List.set_cons_zero, List.set_cons_succ, i64_w, i32_w]
                  rfl
                refine pure_ (i := 6) (N := some 23) (v := ?_) (a' := ?_) #[true, true, true, false, true, true, true, false, false, false] rfl rfl (any_of HT_.out (by kernel_rfl)) (fun _ _ _ h => h) (Or.inl ⟨by rfl, ?_⟩) ?_ ?_
                rotate_left
                · intro w'
                  go_simp
                  with_reducible rfl
                rotate_left
                · simp only [Act.put, List.setIfInBounds_toArray, List.set_cons_zero, List.set_cons_succ, i64_w, i32_w]
                  rfl
                refine take_ (i := 3) (N := some 20) (v := ?_) (a' := ?_) #[true, true, true, true, true, true, true, false, false, false] rfl rfl (take_ofW HT_.out HW_.out (by kernel_rfl)) (fun _ _ _ h => h) (Or.inl ⟨by rfl, ?_⟩) hHeld ?_ ?_
                rotate_left
                · rintro w' ⟨s0, s1, s2, s3, s4, s5, s6, s7⟩
                  go_simp
                  with_reducible rfl
                rotate_left
                · simp only [Act.put, List.setIfInBounds_toArray, List.set_cons_zero, List.set_cons_succ, i64_w, i32_w]
                  rfl
                refine take_ (i := 7) (N := some 24) (v := ?_) (a' := ?_) #[true, true, true, true, true, true, true, true, false, false] rfl rfl (take_ofW HT_.out HW_.out (by kernel_rfl)) (fun _ _ _ h => h) (Or.inl ⟨by rfl, ?_⟩) hHeld ?_ ?_
                rotate_left
                · rintro w' ⟨s0, s1, s2, s3, s4, s5, s6, s7⟩
                  go_simp
                  with_reducible rfl
                rotate_left
                · simp only [Act.put, List.setIfInBounds_toArray, List.set_cons_zero, List.set_cons_succ, i64_w, i32_w]
                  rfl
                refine one_ (i := 8) (N := some 25) #[true, true, true, true, true, true, true, true, true, false] rfl rfl (one_of HT_.out (by kernel_rfl)) (by decide) (fun K hK => ?_)
                refine goes_ Try.func80 (by kernel_rfl) rfl #[.agg #[.float .f64 b_fr189_0, .float .f64 b_fr189_1, .float .f64 b_fr189_2, .float .f64 b_fr189_3], .agg #[.float .f64 b_fr190_0, .float .f64 b_fr190_1, .float .f64 b_fr190_2, .float .f64 b_fr190_3]] (by rfl) rfl rfl (by (try simp only [List.map_toArray, List.map_cons, List.map_nil]); first | done | rfl | (simp only [List.length_drop, List.length_take]; rfl)) ?_
                with_reducible refine (laws_eqMotion.calls k1 b_fr189_0 fr189_0 b_fr189_1 fr189_1 b_fr189_2 fr189_2 b_fr189_3 fr189_3 b_fr190_0 fr190_0 b_fr190_1 fr190_1 b_fr190_2 fr190_2 b_fr190_3 fr190_3 true _ ?side1 ?side2 ?side3 ?side4 ?side5 ?side6 ?side7 ?side8 A7.out).mono ?_
                (case side1 => exact hF_fr189_0)
                (case side2 => exact hF_fr189_1)
                (case side3 => exact hF_fr189_2)
                (case side4 => exact hF_fr189_3)
                (case side5 => exact hF_fr190_0)
                (case side6 => exact hF_fr190_1)
                (case side7 => exact hF_fr190_2)
                (case side8 => exact hF_fr190_3)
                rintro e w10 ⟨rfl, hb⟩
                refine ⟨_, rfl, ?_⟩
                have n0_ := Aside0.mk (below_step (by repeat (first | (with_reducible first | exact HB.out | apply below_alloc | apply pw_below_drewN | apply below_drew1) | exact HB.out)) hb)
                clear HB
                have HB := n0_
                clear n0_
                (try clear hb)
                (try clear hb2)
                (try clear hk)
                (try clear hi)
                refine hK.out _ _ ⟨((HB.out.cell (World.block_lt_of_cell? w _ hw189_0)).trans hw189_0), ((HB.out.cell (World.block_lt_of_cell? w _ hw189_1)).trans hw189_1), ((HB.out.cell (World.block_lt_of_cell? w _ hw189_2)).trans hw189_2), ((HB.out.cell (World.block_lt_of_cell? w _ hw189_3)).trans hw189_3), ((HB.out.cell (World.block_lt_of_cell? w _ hw190_0)).trans hw190_0), ((HB.out.cell (World.block_lt_of_cell? w _ hw190_1)).trans hw190_1), ((HB.out.cell (World.block_lt_of_cell? w _ hw190_2)).trans hw190_2), ((HB.out.cell (World.block_lt_of_cell? w _ hw190_3)).trans hw190_3)⟩ (fun hHeld => ?_)
                clear hK K
                refine norm_ (a' := ?_) ?_ ?_
                rotate_left
                · show Act.put _ (some 25) _ = _
                  simp only [Act.put, List.setIfInBounds_toArray, List.set_cons_zero, List.set_cons_succ, i64_w, i32_w]
                  rfl
                refine pure_ (i := 9) (N := some 26) (v := ?_) (a' := ?_) #[true, true, true, true, true, true, true, true, true, true] rfl rfl (any_of HT_.out (by kernel_rfl)) (fun _ _ _ h => h) (Or.inl ⟨by rfl, ?_⟩) ?_ ?_
                rotate_left
                · intro w'
                  go_simp
                  with_reducible rfl
                rotate_left
                · simp only [Act.put, List.setIfInBounds_toArray, List.set_cons_zero, List.set_cons_succ, i64_w, i32_w]
                  rfl
                refine done_ (done_of HT_.out (by kernel_rfl)) ?_
                try go_wp2
                go_roundg k1
                case measure => have := HK1.out; omega
                case rel => exact ⟨(wrap64 (x5_1 + 1)), (by first | rfl | (simp; done) | (simp [*]; done)), H', ⟨by have := HK1.out; omega⟩, ⟨by repeat (first | (with_reducible first | exact HB.out | apply below_alloc | apply pw_below_drewN | apply below_drew1) | exact HB.out)⟩⟩
              · replace c8 := Bool.eq_false_iff.mpr c8
                subst c8
                have H1 : (some false) = some r := by rw [if_neg (show ¬ (false = true) by decide)] at H; exact H
                clear H
                have H := H1
                clear H1
                obtain rfl := Option.some.inj H
                try go_wp2
                have n0_ := Aside0.mk (below_drew1 HB.out)
                clear HB
                have HB := n0_
                clear n0_
                have p189 : 0 ≤ (x5_1 : Int) := of_decide_eq_true (by first | (with_reducible assumption) | assumption)
                have q189 : x5_1 < (l0.length : Int) := of_decide_eq_true (by first | (with_reducible assumption) | assumption)
                obtain ⟨ad189, b_fr189_0, b_fr189_1, b_fr189_2, b_fr189_3, e189, hx189_0, hx189_1, hx189_2, hx189_3, hF189_0, hF189_1, hF189_2, hF189_3⟩ := at_T66 HR0.out x5_1 p189 q189
                have hw189_3 := hx189_3
                have hw189_2 := hx189_2
                have hw189_1 := hx189_1
                have hw189_0 := hx189_0
                have hF_fr189_0 := hF189_0.trans Nfr189_0.out.symm
                clear hF189_0
                have hF_fr189_1 := hF189_1.trans Nfr189_1.out.symm
                clear hF189_1
                have hF_fr189_2 := hF189_2.trans Nfr189_2.out.symm
                clear hF189_2
                have hF_fr189_3 := hF189_3.trans Nfr189_3.out.symm
                clear hF189_3
                cases e189
                replace hx189_0 := (HB.out.cell (World.block_lt_of_cell? w _ hx189_0)).trans hx189_0
                replace hx189_1 := (HB.out.cell (World.block_lt_of_cell? w _ hx189_1)).trans hx189_1
                replace hx189_2 := (HB.out.cell (World.block_lt_of_cell? w _ hx189_2)).trans hx189_2
                replace hx189_3 := (HB.out.cell (World.block_lt_of_cell? w _ hx189_3)).trans hx189_3
                replace p189 := eq_true p189
                replace q189 := eq_true q189
                have p190 : 0 ≤ (x5_1 : Int) := of_decide_eq_true (by first | (with_reducible assumption) | assumption)
                have q190 : x5_1 < (l1.length : Int) := of_decide_eq_true (by first | (with_reducible assumption) | assumption)
                obtain ⟨ad190, b_fr190_0, b_fr190_1, b_fr190_2, b_fr190_3, e190, hx190_0, hx190_1, hx190_2, hx190_3, hF190_0, hF190_1, hF190_2, hF190_3⟩ := at_T66 HR1.out x5_1 p190 q190
                have hw190_3 := hx190_3
                have hw190_2 := hx190_2
                have hw190_1 := hx190_1
                have hw190_0 := hx190_0
                have hF_fr190_0 := hF190_0.trans Nfr190_0.out.symm
                clear hF190_0
                have hF_fr190_1 := hF190_1.trans Nfr190_1.out.symm
                clear hF190_1
                have hF_fr190_2 := hF190_2.trans Nfr190_2.out.symm
                clear hF190_2
                have hF_fr190_3 := hF190_3.trans Nfr190_3.out.symm
                clear hF190_3
                cases e190
                replace hx190_0 := (HB.out.cell (World.block_lt_of_cell? w _ hx190_0)).trans hx190_0
                replace hx190_1 := (HB.out.cell (World.block_lt_of_cell? w _ hx190_1)).trans hx190_1
                replace hx190_2 := (HB.out.cell (World.block_lt_of_cell? w _ hx190_2)).trans hx190_2
                replace hx190_3 := (HB.out.cell (World.block_lt_of_cell? w _ hx190_3)).trans hx190_3
                replace p190 := eq_true p190
                replace q190 := eq_true q190
                refine start_ (n := 10) (S := fun w' => w'.cell? (ad189.add ((x5_1).toNat * 4)) = some (.float .f64 b_fr189_0) ∧ w'.cell? ⟨(ad189.add ((x5_1).toNat * 4)).block, (ad189.add ((x5_1).toNat * 4)).off + 1, none⟩ = some (.float .f64 b_fr189_1) ∧ w'.cell? ⟨(ad189.add ((x5_1).toNat * 4)).block, (ad189.add ((x5_1).toNat * 4)).off + 2, none⟩ = some (.float .f64 b_fr189_2) ∧ w'.cell? ⟨(ad189.add ((x5_1).toNat * 4)).block, (ad189.add ((x5_1).toNat * 4)).off + 3, none⟩ = some (.float .f64 b_fr189_3) ∧ w'.cell? (ad190.add ((x5_1).toNat * 4)) = some (.float .f64 b_fr190_0) ∧ w'.cell? ⟨(ad190.add ((x5_1).toNat * 4)).block, (ad190.add ((x5_1).toNat * 4)).off + 1, none⟩ = some (.float .f64 b_fr190_1) ∧ w'.cell? ⟨(ad190.add ((x5_1).toNat * 4)).block, (ad190.add ((x5_1).toNat * 4)).off + 2, none⟩ = some (.float .f64 b_fr190_2) ∧ w'.cell? ⟨(ad190.add ((x5_1).toNat * 4)).block, (ad190.add ((x5_1).toNat * 4)).off + 3, none⟩ = some (.float .f64 b_fr190_3)) (ds := []) #[false, false, false, false, false, false, false, false, false, false] (by kernel_rfl) rfl rfl ⟨((HB.out.cell (World.block_lt_of_cell? w _ hw189_0)).trans hw189_0), ((HB.out.cell (World.block_lt_of_cell? w _ hw189_1)).trans hw189_1), ((HB.out.cell (World.block_lt_of_cell? w _ hw189_2)).trans hw189_2), ((HB.out.cell (World.block_lt_of_cell? w _ hw189_3)).trans hw189_3), ((HB.out.cell (World.block_lt_of_cell? w _ hw190_0)).trans hw190_0), ((HB.out.cell (World.block_lt_of_cell? w _ hw190_1)).trans hw190_1), ((HB.out.cell (World.block_lt_of_cell? w _ hw190_2)).trans hw190_2), ((HB.out.cell (World.block_lt_of_cell? w _ hw190_3)).trans hw190_3)⟩ (fun hHeld => ?_); refine with_tabW laws_eqMotionS.tab6 laws_eqMotionS.bits6 (fun HT_ HW_ => ?_)
                generalize wr.drew = w11 at HB hx189_0 hx189_1 hx189_2 hx189_3 hx190_0 hx190_1 hx190_2 hx190_3 hHeld ⊢
                refine pure_ (i := 0) (N := some 17) (v := ?_) (a' := ?_) #[true, false, false, false, false, false, false, false, false, false] rfl rfl (any_of HT_.out (by kernel_rfl)) (fun _ _ _ h => h) (Or.inl ⟨by rfl, ?_⟩) ?_ ?_
                rotate_left
                · intro w'
                  go_simp
                  with_reducible rfl
                rotate_left
                · simp only [Act.put, List.setIfInBounds_toArray, List.set_cons_zero, List.set_cons_succ, i64_w, i32_w]
                  rfl
                refine pure_ (i := 1) (N := some 18) (v := ?_) (a' := ?_) #[true, true, false, false, false, false, false, false, false, false] rfl rfl (any_of HT_.out (by kernel_rfl)) (fun _ _ _ h => h) (Or.inl ⟨by rfl, ?_⟩) ?_ ?_
                rotate_left
                · intro w'
                  go_simp
                  with_reducible rfl
                rotate_left
                · simp only [Act.put, List.setIfInBounds_toArray, List.set_cons_zero, List.set_cons_succ, i64_w, i32_w]
                  rfl
                refine pure_ (i := 2) (N := some 19) (v := ?_) (a' := ?_) #[true, true, true, false, false, false, false, false, false, false] rfl rfl (any_of HT_.out (by kernel_rfl)) (fun _ _ _ h => h) (Or.inl ⟨by rfl, ?_⟩) ?_ ?_
                rotate_left
                · intro w'
                  go_simp
                  with_reducible rfl
                rotate_left
                · simp only [Act.put, List.setIfInBounds_toArray, List.set_cons_zero, List.set_cons_succ, i64_w, i32_w]
                  rfl
                refine pure_ (i := 4) (N := some 21) (v := ?_) (a' := ?_) #[true, true, true, false, true, false, false, false, false, false] rfl rfl (any_of HT_.out (by kernel_rfl)) (fun _ _ _ h => h) (Or.inl ⟨by rfl, ?_⟩) ?_ ?_
                rotate_left
                · intro w'
                  go_simp
                  with_reducible rfl
                rotate_left
                · simp only [Act.put, List.setIfInBounds_toArray, List.set_cons_zero, List.set_cons_succ, i64_w, i32_w]
                  rfl
                refine pure_ (i := 5) (N := some 22) (v := ?_) (a' := ?_) #[true, true, true, false, true, true, false, false, false, false] rfl rfl (any_of HT_.out (by kernel_rfl)) (fun _ _ _ h => h) (Or.inl ⟨by rfl, ?_⟩) ?_ ?_
                rotate_left
                · intro w'
                  go_simp
                  with_reducible rfl
                rotate_left
                · simp only [Act.put, List.setIfInBounds_toArray, List.set_cons_zero, List.set_cons_succ, i64_w, i32_w]
                  rfl
                refine pure_ (i := 6) (N := some 23) (v := ?_) (a' := ?_) #[true, true, true, false, true, true, true, false, false, false] rfl rfl (any_of HT_.out (by kernel_rfl)) (fun _ _ _ h => h) (Or.inl ⟨by rfl, ?_⟩) ?_ ?_
                rotate_left
                · intro w'
                  go_simp
                  with_reducible rfl
                rotate_left
                · simp only [Act.put, List.setIfInBounds_toArray, List.set_cons_zero, List.set_cons_succ, i64_w, i32_w]
                  rfl
                refine take_ (i := 3) (N := some 20) (v := ?_) (a' := ?_) #[true, true, true, true, true, true, true, false, false, false] rfl rfl (take_ofW HT_.out HW_.out (by kernel_rfl)) (fun _ _ _ h => h) (Or.inl ⟨by rfl, ?_⟩) hHeld ?_ ?_
                rotate_left
                · rintro w' ⟨s0, s1, s2, s3, s4, s5, s6, s7⟩
                  go_simp
                  with_reducible rfl
                rotate_left
                · simp only [Act.put, List.setIfInBounds_toArray, List.set_cons_zero, List.set_cons_succ, i64_w, i32_w]
                  rfl
                refine take_ (i := 7) (N := some 24) (v := ?_) (a' := ?_) #[true, true, true, true, true, true, true, true, false, false] rfl rfl (take_ofW HT_.out HW_.out (by kernel_rfl)) (fun _ _ _ h => h) (Or.inl ⟨by rfl, ?_⟩) hHeld ?_ ?_
                rotate_left
                · rintro w' ⟨s0, s1, s2, s3, s4, s5, s6, s7⟩
                  go_simp
                  with_reducible rfl
                rotate_left
                · simp only [Act.put, List.setIfInBounds_toArray, List.set_cons_zero, List.set_cons_succ, i64_w, i32_w]
                  rfl
                refine one_ (i := 8) (N := some 25) #[true, true, true, true, true, true, true, true, true, false] rfl rfl (one_of HT_.out (by kernel_rfl)) (by decide) (fun K hK => ?_)
                refine goes_ Try.func80 (by kernel_rfl) rfl #[.agg #[.float .f64 b_fr189_0, .float .f64 b_fr189_1, .float .f64 b_fr189_2, .float .f64 b_fr189_3], .agg #[.float .f64 b_fr190_0, .float .f64 b_fr190_1, .float .f64 b_fr190_2, .float .f64 b_fr190_3]] (by rfl) rfl rfl (by (try simp only [List.map_toArray, List.map_cons, List.map_nil]); first | done | rfl | (simp only [List.length_drop, List.length_take]; rfl)) ?_
                with_reducible refine (laws_eqMotion.calls k1 b_fr189_0 fr189_0 b_fr189_1 fr189_1 b_fr189_2 fr189_2 b_fr189_3 fr189_3 b_fr190_0 fr190_0 b_fr190_1 fr190_1 b_fr190_2 fr190_2 b_fr190_3 fr190_3 false _ ?side1 ?side2 ?side3 ?side4 ?side5 ?side6 ?side7 ?side8 A7.out).mono ?_
                (case side1 => exact hF_fr189_0)
                (case side2 => exact hF_fr189_1)
                (case side3 => exact hF_fr189_2)
                (case side4 => exact hF_fr189_3)
                (case side5 => exact hF_fr190_0)
                (case side6 => exact hF_fr190_1)
                (case side7 => exact hF_fr190_2)
                (case side8 => exact hF_fr190_3)
                rintro e w12 ⟨rfl, hb⟩
                refine ⟨_, rfl, ?_⟩
                have n0_ := Aside0.mk (below_step (by repeat (first | (with_reducible first | exact HB.out | apply below_alloc | apply pw_below_drewN | apply below_drew1) | exact HB.out)) hb)
                clear HB
                have HB := n0_
                clear n0_
                (try clear hb)
                (try clear hb2)
                (try clear hk)
                (try clear hi)
                refine hK.out _ _ ⟨((HB.out.cell (World.block_lt_of_cell? w _ hw189_0)).trans hw189_0), ((HB.out.cell (World.block_lt_of_cell? w _ hw189_1)).trans hw189_1), ((HB.out.cell (World.block_lt_of_cell? w _ hw189_2)).trans hw189_2), ((HB.out.cell (World.block_lt_of_cell? w _ hw189_3)).trans hw189_3), ((HB.out.cell (World.block_lt_of_cell? w _ hw190_0)).trans hw190_0), ((HB.out.cell (World.block_lt_of_cell? w _ hw190_1)).trans hw190_1), ((HB.out.cell (World.block_lt_of_cell? w _ hw190_2)).trans hw190_2), ((HB.out.cell (World.block_lt_of_cell? w _ hw190_3)).trans hw190_3)⟩ (fun hHeld => ?_)
                clear hK K
                refine norm_ (a' := ?_) ?_ ?_
                rotate_left
                · show Act.put _ (some 25) _ = _
                  simp only [Act.put, List.setIfInBounds_toArray, List.set_cons_zero, List.set_cons_succ, i64_w, i32_w]
                  rfl
                refine pure_ (i := 9) (N := some 26) (v := ?_) (a' := ?_) #[true, true, true, true, true, true, true, true, true, true] rfl rfl (any_of HT_.out (by kernel_rfl)) (fun _ _ _ h => h) (Or.inl ⟨by rfl, ?_⟩) ?_ ?_
                rotate_left
                · intro w'
                  go_simp
                  with_reducible rfl
                rotate_left
                · simp only [Act.put, List.setIfInBounds_toArray, List.set_cons_zero, List.set_cons_succ, i64_w, i32_w]
                  rfl
                refine done_ (done_of HT_.out (by kernel_rfl)) ?_
                try go_wp2
                go_ret
                exact ⟨by first | rfl | (simp [errW_none, errW_some] <;> rfl) | (simp [*, errW_none, errW_some] <;> rfl), by repeat (first | (with_reducible first | exact HB.out | apply below_alloc | apply pw_below_drewN | apply below_drew1) | exact HB.out)⟩
            · rw [if_neg c6] at H
              exact absurd H (by simp)
          · rw [if_neg c5] at H
            exact absurd H (by simp)
        · rw [if_neg c4] at H
          have c4b0 : decide (x5_1 < (l0.length : Int)) = false := decide_eq_false c4
          clear c4
          obtain rfl := Option.some.inj H
          go_wp2
          go_ret
          exact ⟨by first | rfl | (simp [errW_none, errW_some] <;> rfl) | (simp [*, errW_none, errW_some] <;> rfl), by repeat (first | (with_reducible first | exact HB.out | apply below_alloc | apply pw_below_drewN | apply below_drew1) | exact HB.out)⟩
  · rw [if_neg c3] at H
    have c3b0 : ((l0.length : Int) == (l1.length : Int)) = false := beq_eq_false_iff_ne.mpr c3
    have c3b1 : ((l0.length : Int) != (l1.length : Int)) = true := bne_iff_ne.mpr c3
    have c3b2 : (l0.length == l1.length) = false := by first | simpa using c3 | (simp at c3 ⊢; omega)
    obtain rfl := Option.some.inj H
    go_enter Try.func45, Try.ntmps45
    go_wp2
    go_ret
    exact ⟨by first | rfl | (simp [errW_none, errW_some] <;> rfl) | (simp [*, errW_none, errW_some] <;> rfl), by repeat (first | (with_reducible first | exact HB.out | apply below_alloc | apply pw_below_drewN | apply below_drew1) | exact HB.out)⟩

/-! ### laws_markMotionS: function 46 -/
def laws_markMotionS.l0 : Nat → List (S66) → Int → Int → Option (Int × (List (S66)))
  | 0, _, _, _ => none
  | k + 1, x0, x1, x5 => if x5 < (x0.length : Int) then (if 0 ≤ x5 then ((some (x0.set (x5 : Int).toNat (⟨(fint .f64 x1), (rd_T66 x0 x5).f1, (rd_T66 x0 x5).f2, (rd_T66 x0 x5).f3⟩ : S66) : List (S66))).bind fun y193 => ((some (y193.set (x5 : Int).toNat (⟨(rd_T66 y193 x5).f0, (fint .f64 (wrap64 (x1 + 1))), (rd_T66 y193 x5).f2, (rd_T66 y193 x5).f3⟩ : S66) : List (S66))).bind fun y195 => ((some (y195.set (x5 : Int).toNat (⟨(rd_T66 y195 x5).f0, (rd_T66 y195 x5).f1, (fint .f64 (wrap64 ((wrap64 (x1 + 1)) + 1))), (rd_T66 y195 x5).f3⟩ : S66) : List (S66))).bind fun y197 => (laws_markMotionS.l0 k (y197.set (x5 : Int).toNat (⟨(rd_T66 y197 x5).f0, (rd_T66 y197 x5).f1, (rd_T66 y197 x5).f2, (fint .f64 (wrap64 ((wrap64 ((wrap64 (x1 + 1)) + 1)) + 1)))⟩ : S66)) (wrap64 ((wrap64 ((wrap64 ((wrap64 (x1 + 1)) + 1)) + 1)) + 1)) (wrap64 (x5 + 1)))))) else (none)) else (some (x1, x0))
def laws_markMotionS.f (k : Nat) (l0 : List (S66)) (a1 : Int) : Option (Int × (List (S66))) := laws_markMotionS.l0 k l0 a1 0
theorem laws_markMotionS.mono_l : ∀ k, (∀ y0 y1 y2, LeO (laws_markMotionS.l0 k y0 y1 y2) (laws_markMotionS.l0 (k + 1) y0 y1 y2))
  | 0 => fun _ _ _ r h => by simp [laws_markMotionS.l0] at h
  | k + 1 => by
    have ih0 := laws_markMotionS.mono_l k
    · intro y0 y1 y2
      unfold laws_markMotionS.l0
      repeat' first
      | (with_reducible exact ih0 _ _ _)
      | (with_reducible exact LeO.refl _)
      | (with_reducible exact LeO.none _)
      | (with_reducible refine LeO.ite ?_ ?_)
      | (with_reducible refine LeO.bind ?_ (fun _ => ?_))
      | exact ih0 _ _ _
      | exact LeO.none _
      | refine LeO.ite ?_ ?_
      | refine LeO.bind ?_ (fun _ => ?_)
theorem laws_markMotionS.mono : ∀ a0 a1 k, LeO (laws_markMotionS.f k a0 a1) (laws_markMotionS.f (k + 1) a0 a1) := by
  intro a0 a1 k
  have ih0 := laws_markMotionS.mono_l k
  unfold laws_markMotionS.f
  repeat' first
      | (with_reducible exact ih0 _ _ _)
      | (with_reducible exact LeO.refl _)
      | (with_reducible exact LeO.none _)
      | (with_reducible refine LeO.ite ?_ ?_)
      | (with_reducible refine LeO.bind ?_ (fun _ => ?_))
      | exact ih0 _ _ _
      | exact LeO.none _
      | refine LeO.ite ?_ ?_
      | refine LeO.bind ?_ (fun _ => ?_)
set_option maxHeartbeats 8000000 in
set_option maxRecDepth 100000 in
theorem laws_markMotionS.calls (k : Nat) (P0_ : Nat → Prop) (u9000_ : Value) (l0 : List (S66)) (a1 : Int) (r1 : Int) (r2 : List (S66)) (w0 w : World) (hB : Below w0.heap.size w0 w) (ho0 : Kd.R k66 66 w w0.heap.size P0_ u9000_ l0) (h : laws_markMotionS.f k l0 a1 = some (r1, r2)) :
    Calls Try.prog 46 #[u9000_, .int .i64 a1] w fun e w' => e = .returned (.int .i64 r1) ∧ Kd.R k66 66 w' w0.heap.size (fun k_ => (P0_ k_ ∨ w.heap.size ≤ k_)) u9000_ r2 ∧ Below w0.heap.size w0 w' ∧ Kept w w' (fun k_ => P0_ k_) := by
  have HO0 := Aside0.mk (show Kd.R k66 66 w w0.heap.size (fun k_ => (P0_ k_ ∨ w.heap.size ≤ k_)) u9000_ l0 from Kd.R_mono ho0 (fun k_ hk => (.inl hk)))
  have HK := Aside0.mk (Kept.refl w (fun k_ => P0_ k_))
  have HW0 := Aside0.mk hB.size
  have HB := Aside0.mk hB
  clear hB
  have H : (laws_markMotionS.l0 k l0 a1 0) = some (r1, r2) := h
  clear h
  have H' := Aside0.mk H
  clear H
  go_enter Try.func46, Try.ntmps46
  go_wp2
  go_loopg [1, 5] k (fun kq v1 v5 w' => ∃ (x0_1 : List (S66)) (x1_1 : Int) (x5_1 : Int), v1 = .int .i64 x1_1 ∧ v5 = .int .i64 x5_1 ∧ Aside0 (laws_markMotionS.l0 kq x0_1 x1_1 x5_1 = some (r1, r2)) ∧ Aside0 (kq ≤ k) ∧ Aside0 (Kd.R k66 66 w' w0.heap.size (fun k_ => (P0_ k_ ∨ w.heap.size ≤ k_)) u9000_ x0_1) ∧ Aside0 (Kept w w' (fun k_ => P0_ k_)) ∧ Aside0 (Below w0.heap.size w0 w'))
  case atStart => exact ⟨(l0), (a1), (0), (by first | rfl | (simp; done) | (simp [*]; done)), (by first | rfl | (simp; done) | (simp [*]; done)), H', ⟨Nat.le_refl _⟩, ⟨by (with_reducible repeat (first | apply Kd.R_alloc | apply Kd.R_drewN | apply Kd.R_drew)); exact HO0.out⟩, ⟨by repeat (first | (with_reducible first | exact HK.out | apply Kept.alloc | apply Kept.drewN | apply Kept.drew) | exact HK.out)⟩, ⟨by repeat (first | (with_reducible first | exact HB.out | apply below_alloc | apply pw_below_drewN | apply below_drew1) | exact HB.out)⟩⟩
  case round =>
    clear H'
    try clear p2
    obtain ⟨x0_1, x1_1, x5_1, rfl, rfl, HA, HK1, HO_0, HK, HB⟩ := hrel
    cases gk with
    | zero => exact absurd HA.out (by simp [laws_markMotionS.l0])
    | succ k1 =>
      have H := HA.out
      clear HA
      simp only [laws_markMotionS.l0] at H
      by_cases c3 : x5_1 < (x0_1.length : Int)
      · rw [if_pos c3] at H
        have c3b0 : decide (x5_1 < (x0_1.length : Int)) = true := decide_eq_true c3
        clear c3
        obtain ⟨ft192, hft192⟩ : ∃ y_ : Fl, y_ = (fint .f64 x1_1) := ⟨_, rfl⟩
        replace H : (if 0 ≤ x5_1 then ((some (x0_1.set (x5_1 : Int).toNat (⟨ft192, (rd_T66 x0_1 x5_1).f1, (rd_T66 x0_1 x5_1).f2, (rd_T66 x0_1 x5_1).f3⟩ : S66) : List (S66))).bind fun y193 => ((some (y193.set (x5_1 : Int).toNat (⟨(rd_T66 y193 x5_1).f0, (fint .f64 (wrap64 (x1_1 + 1))), (rd_T66 y193 x5_1).f2, (rd_T66 y193 x5_1).f3⟩ : S66) : List (S66))).bind fun y195 => ((some (y195.set (x5_1 : Int).toNat (⟨(rd_T66 y195 x5_1).f0, (rd_T66 y195 x5_1).f1, (fint .f64 (wrap64 ((wrap64 (x1_1 + 1)) + 1))), (rd_T66 y195 x5_1).f3⟩ : S66) : List (S66))).bind fun y197 => (laws_markMotionS.l0 k1 (y197.set (x5_1 : Int).toNat (⟨(rd_T66 y197 x5_1).f0, (rd_T66 y197 x5_1).f1, (rd_T66 y197 x5_1).f2, (fint .f64 (wrap64 ((wrap64 ((wrap64 (x1_1 + 1)) + 1)) + 1)))⟩ : S66)) (wrap64 ((wrap64 ((wrap64 ((wrap64 (x1_1 + 1)) + 1)) + 1)) + 1)) (wrap64 (x5_1 + 1)))))) else (none)) = some (r1, r2) := by first | (rw [hft192]; with_reducible exact H) | (have H2_ := (Option.bind_some _ _).symm.trans H; rw [hft192]; with_reducible exact H2_) | (have H2_ := (Option.bind_some _ _).symm.trans H; with_reducible exact H2_) | with_reducible exact H | (rw [hft192]; exact H) | exact H
        have Nft192 := Aside0.mk hft192
        clear hft192
        by_cases c4 : 0 ≤ x5_1
        · rw [if_pos c4] at H
          have c4b0 : decide (0 ≤ x5_1) = true := decide_eq_true c4
          clear c4
          obtain ⟨y193, hy193⟩ : ∃ y_ : List (S66), y_ = (x0_1.set (x5_1 : Int).toNat (⟨ft192, (rd_T66 x0_1 x5_1).f1, (rd_T66 x0_1 x5_1).f2, (rd_T66 x0_1 x5_1).f3⟩ : S66)) := ⟨_, rfl⟩
          replace H : ((some (y193.set (x5_1 : Int).toNat (⟨(rd_T66 y193 x5_1).f0, (fint .f64 (wrap64 (x1_1 + 1))), (rd_T66 y193 x5_1).f2, (rd_T66 y193 x5_1).f3⟩ : S66) : List (S66))).bind fun y195 => ((some (y195.set (x5_1 : Int).toNat (⟨(rd_T66 y195 x5_1).f0, (rd_T66 y195 x5_1).f1, (fint .f64 (wrap64 ((wrap64 (x1_1 + 1)) + 1))), (rd_T66 y195 x5_1).f3⟩ : S66) : List (S66))).bind fun y197 => (laws_markMotionS.l0 k1 (y197.set (x5_1 : Int).toNat (⟨(rd_T66 y197 x5_1).f0, (rd_T66 y197 x5_1).f1, (rd_T66 y197 x5_1).f2, (fint .f64 (wrap64 ((wrap64 ((wrap64 (x1_1 + 1)) + 1)) + 1)))⟩ : S66)) (wrap64 ((wrap64 ((wrap64 ((wrap64 (x1_1 + 1)) + 1)) + 1)) + 1)) (wrap64 (x5_1 + 1))))) = some (r1, r2) := by first | (rw [hy193]; with_reducible exact H) | (have H2_ := (Option.bind_some _ _).symm.trans H; rw [hy193]; with_reducible exact H2_) | (have H2_ := (Option.bind_some _ _).symm.trans H; with_reducible exact H2_) | with_reducible exact H | (rw [hy193]; exact H) | exact H
          have Ny193 := Aside0.mk hy193
          clear hy193
          obtain ⟨ft194, hft194⟩ : ∃ y_ : Fl, y_ = (fint .f64 (wrap64 (x1_1 + 1))) := ⟨_, rfl⟩
          replace H : ((some (y193.set (x5_1 : Int).toNat (⟨(rd_T66 y193 x5_1).f0, ft194, (rd_T66 y193 x5_1).f2, (rd_T66 y193 x5_1).f3⟩ : S66) : List (S66))).bind fun y195 => ((some (y195.set (x5_1 : Int).toNat (⟨(rd_T66 y195 x5_1).f0, (rd_T66 y195 x5_1).f1, (fint .f64 (wrap64 ((wrap64 (x1_1 + 1)) + 1))), (rd_T66 y195 x5_1).f3⟩ : S66) : List (S66))).bind fun y197 => (laws_markMotionS.l0 k1 (y197.set (x5_1 : Int).toNat (⟨(rd_T66 y197 x5_1).f0, (rd_T66 y197 x5_1).f1, (rd_T66 y197 x5_1).f2, (fint .f64 (wrap64 ((wrap64 ((wrap64 (x1_1 + 1)) + 1)) + 1)))⟩ : S66)) (wrap64 ((wrap64 ((wrap64 ((wrap64 (x1_1 + 1)) + 1)) + 1)) + 1)) (wrap64 (x5_1 + 1))))) = some (r1, r2) := by first | (rw [hft194]; with_reducible exact H) | (have H2_ := (Option.bind_some _ _).symm.trans H; rw [hft194]; with_reducible exact H2_) | (have H2_ := (Option.bind_some _ _).symm.trans H; with_reducible exact H2_) | with_reducible exact H | (rw [hft194]; exact H) | exact H
          have Nft194 := Aside0.mk hft194
          clear hft194
          obtain ⟨y195, hy195⟩ : ∃ y_ : List (S66), y_ = (y193.set (x5_1 : Int).toNat (⟨(rd_T66 y193 x5_1).f0, ft194, (rd_T66 y193 x5_1).f2, (rd_T66 y193 x5_1).f3⟩ : S66)) := ⟨_, rfl⟩
          replace H : ((some (y195.set (x5_1 : Int).toNat (⟨(rd_T66 y195 x5_1).f0, (rd_T66 y195 x5_1).f1, (fint .f64 (wrap64 ((wrap64 (x1_1 + 1)) + 1))), (rd_T66 y195 x5_1).f3⟩ : S66) : List (S66))).bind fun y197 => (laws_markMotionS.l0 k1 (y197.set (x5_1 : Int).toNat (⟨(rd_T66 y197 x5_1).f0, (rd_T66 y197 x5_1).f1, (rd_T66 y197 x5_1).f2, (fint .f64 (wrap64 ((wrap64 ((wrap64 (x1_1 + 1)) + 1)) + 1)))⟩ : S66)) (wrap64 ((wrap64 ((wrap64 ((wrap64 (x1_1 + 1)) + 1)) + 1)) + 1)) (wrap64 (x5_1 + 1)))) = some (r1, r2) := by first | (rw [hy195]; with_reducible exact H) | (have H2_ := (Option.bind_some _ _).symm.trans H; rw [hy195]; with_reducible exact H2_) | (have H2_ := (Option.bind_some _ _).symm.trans H; with_reducible exact H2_) | with_reducible exact H | (rw [hy195]; exact H) | exact H
          have Ny195 := Aside0.mk hy195
          clear hy195
          obtain ⟨ft196, hft196⟩ : ∃ y_ : Fl, y_ = (fint .f64 (wrap64 ((wrap64 (x1_1 + 1)) + 1))) := ⟨_, rfl⟩
          replace H : ((some (y195.set (x5_1 : Int).toNat (⟨(rd_T66 y195 x5_1).f0, (rd_T66 y195 x5_1).f1, ft196, (rd_T66 y195 x5_1).f3⟩ : S66) : List (S66))).bind fun y197 => (laws_markMotionS.l0 k1 (y197.set (x5_1 : Int).toNat (⟨(rd_T66 y197 x5_1).f0, (rd_T66 y197 x5_1).f1, (rd_T66 y197 x5_1).f2, (fint .f64 (wrap64 ((wrap64 ((wrap64 (x1_1 + 1)) + 1)) + 1)))⟩ : S66)) (wrap64 ((wrap64 ((wrap64 ((wrap64 (x1_1 + 1)) + 1)) + 1)) + 1)) (wrap64 (x5_1 + 1)))) = some (r1, r2) := by first | (rw [hft196]; with_reducible exact H) | (have H2_ := (Option.bind_some _ _).symm.trans H; rw [hft196]; with_reducible exact H2_) | (have H2_ := (Option.bind_some _ _).symm.trans H; with_reducible exact H2_) | with_reducible exact H | (rw [hft196]; exact H) | exact H
          have Nft196 := Aside0.mk hft196
          clear hft196
          obtain ⟨y197, hy197⟩ : ∃ y_ : List (S66), y_ = (y195.set (x5_1 : Int).toNat (⟨(rd_T66 y195 x5_1).f0, (rd_T66 y195 x5_1).f1, ft196, (rd_T66 y195 x5_1).f3⟩ : S66)) := ⟨_, rfl⟩
          replace H : (laws_markMotionS.l0 k1 (y197.set (x5_1 : Int).toNat (⟨(rd_T66 y197 x5_1).f0, (rd_T66 y197 x5_1).f1, (rd_T66 y197 x5_1).f2, (fint .f64 (wrap64 ((wrap64 ((wrap64 (x1_1 + 1)) + 1)) + 1)))⟩ : S66)) (wrap64 ((wrap64 ((wrap64 ((wrap64 (x1_1 + 1)) + 1)) + 1)) + 1)) (wrap64 (x5_1 + 1))) = some (r1, r2) := by first | (rw [hy197]; with_reducible exact H) | (have H2_ := (Option.bind_some _ _).symm.trans H; rw [hy197]; with_reducible exact H2_) | (have H2_ := (Option.bind_some _ _).symm.trans H; with_reducible exact H2_) | with_reducible exact H | (rw [hy197]; exact H) | exact H
          have Ny197 := Aside0.mk hy197
          clear hy197
          obtain ⟨ft198, hft198⟩ : ∃ y_ : Fl, y_ = (fint .f64 (wrap64 ((wrap64 ((wrap64 (x1_1 + 1)) + 1)) + 1))) := ⟨_, rfl⟩
          replace H : (laws_markMotionS.l0 k1 (y197.set (x5_1 : Int).toNat (⟨(rd_T66 y197 x5_1).f0, (rd_T66 y197 x5_1).f1, (rd_T66 y197 x5_1).f2, ft198⟩ : S66)) (wrap64 ((wrap64 ((wrap64 ((wrap64 (x1_1 + 1)) + 1)) + 1)) + 1)) (wrap64 (x5_1 + 1))) = some (r1, r2) := by first | (rw [hft198]; with_reducible exact H) | (have H2_ := (Option.bind_some _ _).symm.trans H; rw [hft198]; with_reducible exact H2_) | (have H2_ := (Option.bind_some _ _).symm.trans H; with_reducible exact H2_) | with_reducible exact H | (rw [hft198]; exact H) | exact H
          have Nft198 := Aside0.mk hft198
          clear hft198
          obtain ⟨y199, hy199⟩ : ∃ y_ : List (S66), y_ = (y197.set (x5_1 : Int).toNat (⟨(rd_T66 y197 x5_1).f0, (rd_T66 y197 x5_1).f1, (rd_T66 y197 x5_1).f2, ft198⟩ : S66)) := ⟨_, rfl⟩
          replace H : (laws_markMotionS.l0 k1 y199 (wrap64 ((wrap64 ((wrap64 ((wrap64 (x1_1 + 1)) + 1)) + 1)) + 1)) (wrap64 (x5_1 + 1))) = some (r1, r2) := by first | (rw [hy199]; with_reducible exact H) | (have H2_ := (Option.bind_some _ _).symm.trans H; rw [hy199]; with_reducible exact H2_) | (have H2_ := (Option.bind_some _ _).symm.trans H; with_reducible exact H2_) | with_reducible exact H | (rw [hy199]; exact H) | exact H
          have Ny199 := Aside0.mk hy199
          clear hy199
          have H' := Aside0.mk H
          clear H
          obtain ⟨Ao9, co9, eo9⟩ := Kd.R_slice HO_0.out
          subst eo9
          go_wp2_with (first | ((with_reducible refine gate_dst (N := 15) rfl ?_); refine fint_event rfl (N := 15) rfl rfl .f64 .i64 x1_1 Try.underlying3 Try.underlying23 rfl ?_; intro b_ft192 nf_ hF_; replace hF_ := hF_.trans Nft192.out.symm; have hF_ft192 := hF_; clear hF_; (try (rw [drewN_self wr]; generalize hq_ : World.drewN wr _ = wr; have n0_ : Aside0 (Kd.R k66 66 wr w0.heap.size (fun k_ => (P0_ k_ ∨ w.heap.size ≤ k_)) (.slice Ao9 x0_1.length co9) x0_1) := ⟨by rw [← hq_]; exact (by (with_reducible repeat (first | apply Kd.R_alloc | apply Kd.R_drewN | apply Kd.R_drew)); exact HO_0.out)⟩; have n1_ : Aside0 (Kept w wr (fun k_ => P0_ k_)) := ⟨by rw [← hq_]; exact (by repeat (first | (with_reducible first | exact HK.out | apply Kept.alloc | apply Kept.drewN | apply Kept.drew) | exact HK.out))⟩; have n2_ : Aside0 (Below w0.heap.size w0 wr) := ⟨by rw [← hq_]; exact (by repeat (first | (with_reducible first | exact HB.out | apply below_alloc | apply pw_below_drewN | apply below_drew1) | exact HB.out))⟩; clear HO_0 HK HB hq_; have HO_0 := n0_; have HK := n1_; have HB := n2_; clear n0_ n1_ n2_)); have p5 : 0 ≤ (x5_1 : Int) := of_decide_eq_true (by first | (with_reducible assumption) | assumption); have q5 : (x5_1 : Int) < ((x0_1.length : Int) : Int) := of_decide_eq_true (by first | (with_reducible assumption) | assumption); obtain ⟨go5, co5, eo5, gb5, gl5, cl5, HG5⟩ := Kd.R_form HO_0.out (by omega); (first | cases eo5 | (injection eo5 with ea_ en_ ec_; (first | subst ea_ | (injection ea_ with ea_; subst ea_)); subst ec_; clear en_)); have GB5 := Aside0.mk gb5; have GG5 := Aside0.mk HG5; clear gb5 gl5 HG5; have HMgo5 := Aside0.mk (show (P0_ go5 ∨ w.heap.size ≤ go5) from (HO_0.out.1 _ rfl)); obtain ⟨ce5, hcl5, hM5, hcc5, hfr5⟩ := Kd.R_elem HO_0.out z66 (x5_1 : Int) p5 q5; obtain ⟨b_fr5_0, b_fr5_1, b_fr5_2, b_fr5_3, rfl, hF5_0, hF5_1, hF5_2, hF5_3⟩ := k66_openM hM5; have hx5_0 : wr.cell? ⟨go5, (x5_1 : Int).toNat * 4, none⟩ = some (.float .f64 b_fr5_0) := hcc5 0 _ rfl; have hx5_1 : wr.cell? ⟨go5, (x5_1 : Int).toNat * 4 + 1, none⟩ = some (.float .f64 b_fr5_1) := hcc5 1 _ rfl; have hx5_2 : wr.cell? ⟨go5, (x5_1 : Int).toNat * 4 + 2, none⟩ = some (.float .f64 b_fr5_2) := hcc5 2 _ rfl; have hx5_3 : wr.cell? ⟨go5, (x5_1 : Int).toNat * 4 + 3, none⟩ = some (.float .f64 b_fr5_3) := hcc5 3 _ rfl; have hf5_0 : wr.frozen? ⟨go5, (x5_1 : Int).toNat * 4, none⟩ = false := hfr5 0; have hf5_1 : wr.frozen? ⟨go5, (x5_1 : Int).toNat * 4 + 1, none⟩ = false := hfr5 1; have hf5_2 : wr.frozen? ⟨go5, (x5_1 : Int).toNat * 4 + 2, none⟩ = false := hfr5 2; have hf5_3 : wr.frozen? ⟨go5, (x5_1 : Int).toNat * 4 + 3, none⟩ = false := hfr5 3; clear hcl5 hcc5 hfr5; (try clear hM5); replace p5 := eq_true p5; replace q5 := eq_true q5; have HX10 := Aside0.mk (show Kd.R k66 66 wr w0.heap.size (fun k_ => (P0_ k_ ∨ w.heap.size ≤ k_)) (.slice (some ⟨go5, 0, none⟩) x0_1.length co9) x0_1 from (by (with_reducible repeat (first | apply Kd.R_alloc | apply Kd.R_drewN | apply Kd.R_drew)); exact HO_0.out)); obtain ⟨ce10, hcl10, hM10, hcc10, hfr10⟩ := Kd.R_elem HX10.out z66 (x5_1 : Int) (of_decide_eq_true (by first | (with_reducible assumption) | assumption)) (by have h_ : (x5_1 : Int) < ((x0_1.length : Int) : Int) := of_decide_eq_true (by first | (with_reducible assumption) | assumption); first | exact h_ | (have e_ := (Kd.R_reads' HO_0.out).1; omega) | simpa using h_); obtain ⟨b_fr10_0, b_fr10_1, b_fr10_2, b_fr10_3, rfl, hF10_0, hF10_1, hF10_2, hF10_3⟩ := k66_openM hM10; have HP10 := Kd.R_seg HX10.out (x5_1 : Int) (of_decide_eq_true (by first | (with_reducible assumption) | assumption)) (by have h_ : (x5_1 : Int) < ((x0_1.length : Int) : Int) := of_decide_eq_true (by first | (with_reducible assumption) | assumption); first | exact h_ | (have e_ := (Kd.R_reads' HO_0.out).1; omega) | simpa using h_) (seg := [.float .f64 b_ft192]) (j := 0) hcl10 hcc10 (show 1 ≤ 4 from by decide) (x' := (⟨ft192, (rd_T66 x0_1 x5_1).f1, (rd_T66 x0_1 x5_1).f2, (rd_T66 x0_1 x5_1).f3⟩ : S66)) (k66_mkM _ _ _ (⟨ft192, (rd_T66 x0_1 x5_1).f1, (rd_T66 x0_1 x5_1).f2, (rd_T66 x0_1 x5_1).f3⟩ : S66) hF_ft192 hF10_1 hF10_2 hF10_3) (fun _ hk => hk); have hx10_0 := hcc10 0 _ rfl; (try simp only [show (k66).sz = 4 from rfl, Nat.mul_one, Nat.add_zero] at hx10_0); have hf10_0 := hfr10 0; (try simp only [show (k66).sz = 4 from rfl, Nat.mul_one, Nat.add_zero] at hf10_0); clear hcl10 hcc10 hfr10; (try clear hM10)) | ((with_reducible refine gate_store (t := 23) (p := 17) rfl ?_); refine store_event (t := 23) (p := 17) (v := ?vo_w11) (w1 := (wr.setCell ⟨go5, (x5_1 : Int).toNat * 4, none⟩ (.float .f64 b_ft192))) ?hg ?ho ?hn ?hr ?_; (case ho => rfl); (case hg => rfl); (case hn => rfl); (case hr => first | (go_simp; done) | (go_simp; rfl)); intro w11 hw; have hg : wr.grownBy w11 (some go5) := (by rw [hw]; exact HP10.2); have hp_ : Kd.R k66 66 w11 w0.heap.size (fun k_ => (P0_ k_ ∨ w.heap.size ≤ k_)) (.slice (some ⟨go5, 0, none⟩) x0_1.length co9) y193 := (by rw [hw, Ny193.out]; exact HP10.1); clear HP10; have n0_ := Aside0.mk (hp_); have n1_ := Aside0.mk ((by rw [hw]; exact below_set (HB.out) GB5.out : Below w0.heap.size w0 w11)); have n2_ := Aside0.mk (Kept.of_grown (S := (fun k_ => P0_ k_)) hg (by repeat (first | (with_reducible first | exact HK.out | apply Kept.alloc | apply Kept.drewN | apply Kept.drew) | exact HK.out)) (fun k_ e_ => (HO_0.out.1 k_ e_))); clear HO_0; clear HB; clear HK; have HO_0 := n0_; have HB := n1_; have HK := n2_; clear n0_ n1_ n2_; clear hg hw hp_) | ((with_reducible refine gate_dst (N := 23) rfl ?_); refine fint_event rfl (N := 23) rfl rfl .f64 .i64 (wrap64 (x1_1 + 1)) Try.underlying3 Try.underlying23 rfl ?_; intro b_ft194 nf_ hF_; replace hF_ := hF_.trans Nft194.out.symm; have hF_ft194 := hF_; clear hF_; (try (rw [drewN_self w11]; generalize hq_ : World.drewN w11 _ = w11; have n0_ : Aside0 (Kd.R k66 66 w11 w0.heap.size (fun k_ => (P0_ k_ ∨ w.heap.size ≤ k_)) (.slice (some ⟨go5, 0, none⟩) x0_1.length co9) y193) := ⟨by rw [← hq_]; exact (by (with_reducible repeat (first | apply Kd.R_alloc | apply Kd.R_drewN | apply Kd.R_drew)); exact HO_0.out)⟩; have n1_ : Aside0 (Kept w w11 (fun k_ => P0_ k_)) := ⟨by rw [← hq_]; exact (by repeat (first | (with_reducible first | exact HK.out | apply Kept.alloc | apply Kept.drewN | apply Kept.drew) | exact HK.out))⟩; have n2_ : Aside0 (Below w0.heap.size w0 w11) := ⟨by rw [← hq_]; exact (by repeat (first | (with_reducible first | exact HB.out | apply below_alloc | apply pw_below_drewN | apply below_drew1) | exact HB.out))⟩; clear HO_0 HK HB hq_; have HO_0 := n0_; have HK := n1_; have HB := n2_; clear n0_ n1_ n2_)); have p6 : 0 ≤ (x5_1 : Int) := of_decide_eq_true (by first | (with_reducible assumption) | assumption); have q6 : (x5_1 : Int) < ((x0_1.length : Int) : Int) := of_decide_eq_true (by first | (with_reducible assumption) | assumption); obtain ⟨ce6, hcl6, hM6, hcc6, hfr6⟩ := Kd.R_elem HO_0.out z66 (x5_1 : Int) p6 q6; obtain ⟨b_fr6_0, b_fr6_1, b_fr6_2, b_fr6_3, rfl, hF6_0, hF6_1, hF6_2, hF6_3⟩ := k66_openM hM6; have hx6_0 : w11.cell? ⟨go5, (x5_1 : Int).toNat * 4, none⟩ = some (.float .f64 b_fr6_0) := hcc6 0 _ rfl; have hx6_1 : w11.cell? ⟨go5, (x5_1 : Int).toNat * 4 + 1, none⟩ = some (.float .f64 b_fr6_1) := hcc6 1 _ rfl; have hx6_2 : w11.cell? ⟨go5, (x5_1 : Int).toNat * 4 + 2, none⟩ = some (.float .f64 b_fr6_2) := hcc6 2 _ rfl; have hx6_3 : w11.cell? ⟨go5, (x5_1 : Int).toNat * 4 + 3, none⟩ = some (.float .f64 b_fr6_3) := hcc6 3 _ rfl; have hf6_0 : w11.frozen? ⟨go5, (x5_1 : Int).toNat * 4, none⟩ = false := hfr6 0; have hf6_1 : w11.frozen? ⟨go5, (x5_1 : Int).toNat * 4 + 1, none⟩ = false := hfr6 1; have hf6_2 : w11.frozen? ⟨go5, (x5_1 : Int).toNat * 4 + 2, none⟩ = false := hfr6 2; have hf6_3 : w11.frozen? ⟨go5, (x5_1 : Int).toNat * 4 + 3, none⟩ = false := hfr6 3; clear hcl6 hcc6 hfr6; (try clear hM6); replace p6 := eq_true p6; replace q6 := eq_true q6; have HX12 := Aside0.mk (show Kd.R k66 66 w11 w0.heap.size (fun k_ => (P0_ k_ ∨ w.heap.size ≤ k_)) (.slice (some ⟨go5, 0, none⟩) x0_1.length co9) y193 from (by (with_reducible repeat (first | apply Kd.R_alloc | apply Kd.R_drewN | apply Kd.R_drew)); exact HO_0.out)); obtain ⟨ce12, hcl12, hM12, hcc12, hfr12⟩ := Kd.R_elem HX12.out z66 (x5_1 : Int) (of_decide_eq_true (by first | (with_reducible assumption) | assumption)) (by have h_ : (x5_1 : Int) < ((x0_1.length : Int) : Int) := of_decide_eq_true (by first | (with_reducible assumption) | assumption); first | exact h_ | (have e_ := (Kd.R_reads' HO_0.out).1; omega) | simpa using h_); obtain ⟨b_fr12_0, b_fr12_1, b_fr12_2, b_fr12_3, rfl, hF12_0, hF12_1, hF12_2, hF12_3⟩ := k66_openM hM12; have HP12 := Kd.R_seg HX12.out (x5_1 : Int) (of_decide_eq_true (by first | (with_reducible assumption) | assumption)) (by have h_ : (x5_1 : Int) < ((x0_1.length : Int) : Int) := of_decide_eq_true (by first | (with_reducible assumption) | assumption); first | exact h_ | (have e_ := (Kd.R_reads' HO_0.out).1; omega) | simpa using h_) (seg := [.float .f64 b_ft194]) (j := 1) hcl12 hcc12 (show 2 ≤ 4 from by decide) (x' := (⟨(rd_T66 y193 x5_1).f0, ft194, (rd_T66 y193 x5_1).f2, (rd_T66 y193 x5_1).f3⟩ : S66)) (k66_mkM _ _ _ (⟨(rd_T66 y193 x5_1).f0, ft194, (rd_T66 y193 x5_1).f2, (rd_T66 y193 x5_1).f3⟩ : S66) hF12_0 hF_ft194 hF12_2 hF12_3) (fun _ hk => hk); have hx12_1 := hcc12 1 _ rfl; (try simp only [show (k66).sz = 4 from rfl, Nat.mul_one, Nat.add_zero] at hx12_1); have hf12_1 := hfr12 1; (try simp only [show (k66).sz = 4 from rfl, Nat.mul_one, Nat.add_zero] at hf12_1); clear hcl12 hcc12 hfr12; (try clear hM12)) | ((with_reducible refine gate_store (t := 23) (p := 25) rfl ?_); refine store_event (t := 23) (p := 25) (v := ?vo_w13) (w1 := (w11.setCell ⟨go5, (x5_1 : Int).toNat * 4 + 1, none⟩ (.float .f64 b_ft194))) ?hg ?ho ?hn ?hr ?_; (case ho => rfl); (case hg => rfl); (case hn => rfl); (case hr => first | (go_simp; done) | (go_simp; rfl)); intro w13 hw; have hg : w11.grownBy w13 (some go5) := (by rw [hw]; exact HP12.2); have hp_ : Kd.R k66 66 w13 w0.heap.size (fun k_ => (P0_ k_ ∨ w.heap.size ≤ k_)) (.slice (some ⟨go5, 0, none⟩) x0_1.length co9) y195 := (by rw [hw, Ny195.out]; exact HP12.1); clear HP12; have n0_ := Aside0.mk (hp_); have n1_ := Aside0.mk ((by rw [hw]; exact below_set (HB.out) GB5.out : Below w0.heap.size w0 w13)); have n2_ := Aside0.mk (Kept.of_grown (S := (fun k_ => P0_ k_)) hg (by repeat (first | (with_reducible first | exact HK.out | apply Kept.alloc | apply Kept.drewN | apply Kept.drew) | exact HK.out)) (fun k_ e_ => (HO_0.out.1 k_ e_))); clear HO_0; clear HB; clear HK; have HO_0 := n0_; have HB := n1_; have HK := n2_; clear n0_ n1_ n2_; clear hg hw hp_) | ((with_reducible refine gate_dst (N := 31) rfl ?_); refine fint_event rfl (N := 31) rfl rfl .f64 .i64 (wrap64 ((wrap64 (x1_1 + 1)) + 1)) Try.underlying3 Try.underlying23 rfl ?_; intro b_ft196 nf_ hF_; replace hF_ := hF_.trans Nft196.out.symm; have hF_ft196 := hF_; clear hF_; (try (rw [drewN_self w13]; generalize hq_ : World.drewN w13 _ = w13; have n0_ : Aside0 (Kd.R k66 66 w13 w0.heap.size (fun k_ => (P0_ k_ ∨ w.heap.size ≤ k_)) (.slice (some ⟨go5, 0, none⟩) x0_1.length co9) y195) := ⟨by rw [← hq_]; exact (by (with_reducible repeat (first | apply Kd.R_alloc | apply Kd.R_drewN | apply Kd.R_drew)); exact HO_0.out)⟩; have n1_ : Aside0 (Kept w w13 (fun k_ => P0_ k_)) := ⟨by rw [← hq_]; exact (by repeat (first | (with_reducible first | exact HK.out | apply Kept.alloc | apply Kept.drewN | apply Kept.drew) | exact HK.out))⟩; have n2_ : Aside0 (Below w0.heap.size w0 w13) := ⟨by rw [← hq_]; exact (by repeat (first | (with_reducible first | exact HB.out | apply below_alloc | apply pw_below_drewN | apply below_drew1) | exact HB.out))⟩; clear HO_0 HK HB hq_; have HO_0 := n0_; have HK := n1_; have HB := n2_; clear n0_ n1_ n2_)); have p7 : 0 ≤ (x5_1 : Int) := of_decide_eq_true (by first | (with_reducible assumption) | assumption); have q7 : (x5_1 : Int) < ((x0_1.length : Int) : Int) := of_decide_eq_true (by first | (with_reducible assumption) | assumption); obtain ⟨ce7, hcl7, hM7, hcc7, hfr7⟩ := Kd.R_elem HO_0.out z66 (x5_1 : Int) p7 q7; obtain ⟨b_fr7_0, b_fr7_1, b_fr7_2, b_fr7_3, rfl, hF7_0, hF7_1, hF7_2, hF7_3⟩ := k66_openM hM7; have hx7_0 : w13.cell? ⟨go5, (x5_1 : Int).toNat * 4, none⟩ = some (.float .f64 b_fr7_0) := hcc7 0 _ rfl; have hx7_1 : w13.cell? ⟨go5, (x5_1 : Int).toNat * 4 + 1, none⟩ = some (.float .f64 b_fr7_1) := hcc7 1 _ rfl; have hx7_2 : w13.cell? ⟨go5, (x5_1 : Int).toNat * 4 + 2, none⟩ = some (.float .f64 b_fr7_2) := hcc7 2 _ rfl; have hx7_3 : w13.cell? ⟨go5, (x5_1 : Int).toNat * 4 + 3, none⟩ = some (.float .f64 b_fr7_3) := hcc7 3 _ rfl; have hf7_0 : w13.frozen? ⟨go5, (x5_1 : Int).toNat * 4, none⟩ = false := hfr7 0; have hf7_1 : w13.frozen? ⟨go5, (x5_1 : Int).toNat * 4 + 1, none⟩ = false := hfr7 1; have hf7_2 : w13.frozen? ⟨go5, (x5_1 : Int).toNat * 4 + 2, none⟩ = false := hfr7 2; have hf7_3 : w13.frozen? ⟨go5, (x5_1 : Int).toNat * 4 + 3, none⟩ = false := hfr7 3; clear hcl7 hcc7 hfr7; (try clear hM7); replace p7 := eq_true p7; replace q7 := eq_true q7; have HX14 := Aside0.mk (show Kd.R k66 66 w13 w0.heap.size (fun k_ => (P0_ k_ ∨ w.heap.size ≤ k_)) (.slice (some ⟨go5, 0, none⟩) x0_1.length co9) y195 from (by (with_reducible repeat (first | apply Kd.R_alloc | apply Kd.R_drewN | apply Kd.R_drew)); exact HO_0.out)); obtain ⟨ce14, hcl14, hM14, hcc14, hfr14⟩ := Kd.R_elem HX14.out z66 (x5_1 : Int) (of_decide_eq_true (by first | (with_reducible assumption) | assumption)) (by have h_ : (x5_1 : Int) < ((x0_1.length : Int) : Int) := of_decide_eq_true (by first | (with_reducible assumption) | assumption); first | exact h_ | (have e_ := (Kd.R_reads' HO_0.out).1; omega) | simpa using h_); obtain ⟨b_fr14_0, b_fr14_1, b_fr14_2, b_fr14_3, rfl, hF14_0, hF14_1, hF14_2, hF14_3⟩ := k66_openM hM14; have HP14 := Kd.R_seg HX14.out (x5_1 : Int) (of_decide_eq_true (by first | (with_reducible assumption) | assumption)) (by have h_ : (x5_1 : Int) < ((x0_1.length : Int) : Int) := of_decide_eq_true (by first | (with_reducible assumption) | assumption); first | exact h_ | (have e_ := (Kd.R_reads' HO_0.out).1; omega) | simpa using h_) (seg := [.float .f64 b_ft196]) (j := 2) hcl14 hcc14 (show 3 ≤ 4 from by decide) (x' := (⟨(rd_T66 y195 x5_1).f0, (rd_T66 y195 x5_1).f1, ft196, (rd_T66 y195 x5_1).f3⟩ : S66)) (k66_mkM _ _ _ (⟨(rd_T66 y195 x5_1).f0, (rd_T66 y195 x5_1).f1, ft196, (rd_T66 y195 x5_1).f3⟩ : S66) hF14_0 hF14_1 hF_ft196 hF14_3) (fun _ hk => hk); have hx14_2 := hcc14 2 _ rfl; (try simp only [show (k66).sz = 4 from rfl, Nat.mul_one, Nat.add_zero] at hx14_2); have hf14_2 := hfr14 2; (try simp only [show (k66).sz = 4 from rfl, Nat.mul_one, Nat.add_zero] at hf14_2); clear hcl14 hcc14 hfr14; (try clear hM14)) | ((with_reducible refine gate_store (t := 23) (p := 33) rfl ?_); refine store_event (t := 23) (p := 33) (v := ?vo_w15) (w1 := (w13.setCell ⟨go5, (x5_1 : Int).toNat * 4 + 2, none⟩ (.float .f64 b_ft196))) ?hg ?ho ?hn ?hr ?_; (case ho => rfl); (case hg => rfl); (case hn => rfl); (case hr => first | (go_simp; done) | (go_simp; rfl)); intro w15 hw; have hg : w13.grownBy w15 (some go5) := (by rw [hw]; exact HP14.2); have hp_ : Kd.R k66 66 w15 w0.heap.size (fun k_ => (P0_ k_ ∨ w.heap.size ≤ k_)) (.slice (some ⟨go5, 0, none⟩) x0_1.length co9) y197 := (by rw [hw, Ny197.out]; exact HP14.1); clear HP14; have n0_ := Aside0.mk (hp_); have n1_ := Aside0.mk ((by rw [hw]; exact below_set (HB.out) GB5.out : Below w0.heap.size w0 w15)); have n2_ := Aside0.mk (Kept.of_grown (S := (fun k_ => P0_ k_)) hg (by repeat (first | (with_reducible first | exact HK.out | apply Kept.alloc | apply Kept.drewN | apply Kept.drew) | exact HK.out)) (fun k_ e_ => (HO_0.out.1 k_ e_))); clear HO_0; clear HB; clear HK; have HO_0 := n0_; have HB := n1_; have HK := n2_; clear n0_ n1_ n2_; clear hg hw hp_) | ((with_reducible refine gate_dst (N := 39) rfl ?_); refine fint_event rfl (N := 39) rfl rfl .f64 .i64 (wrap64 ((wrap64 ((wrap64 (x1_1 + 1)) + 1)) + 1)) Try.underlying3 Try.underlying23 rfl ?_; intro b_ft198 nf_ hF_; replace hF_ := hF_.trans Nft198.out.symm; have hF_ft198 := hF_; clear hF_; (try (rw [drewN_self w15]; generalize hq_ : World.drewN w15 _ = w15; have n0_ : Aside0 (Kd.R k66 66 w15 w0.heap.size (fun k_ => (P0_ k_ ∨ w.heap.size ≤ k_)) (.slice (some ⟨go5, 0, none⟩) x0_1.length co9) y197) := ⟨by rw [← hq_]; exact (by (with_reducible repeat (first | apply Kd.R_alloc | apply Kd.R_drewN | apply Kd.R_drew)); exact HO_0.out)⟩; have n1_ : Aside0 (Kept w w15 (fun k_ => P0_ k_)) := ⟨by rw [← hq_]; exact (by repeat (first | (with_reducible first | exact HK.out | apply Kept.alloc | apply Kept.drewN | apply Kept.drew) | exact HK.out))⟩; have n2_ : Aside0 (Below w0.heap.size w0 w15) := ⟨by rw [← hq_]; exact (by repeat (first | (with_reducible first | exact HB.out | apply below_alloc | apply pw_below_drewN | apply below_drew1) | exact HB.out))⟩; clear HO_0 HK HB hq_; have HO_0 := n0_; have HK := n1_; have HB := n2_; clear n0_ n1_ n2_)); have p8 : 0 ≤ (x5_1 : Int) := of_decide_eq_true (by first | (with_reducible assumption) | assumption); have q8 : (x5_1 : Int) < ((x0_1.length : Int) : Int) := of_decide_eq_true (by first | (with_reducible assumption) | assumption); obtain ⟨ce8, hcl8, hM8, hcc8, hfr8⟩ := Kd.R_elem HO_0.out z66 (x5_1 : Int) p8 q8; obtain ⟨b_fr8_0, b_fr8_1, b_fr8_2, b_fr8_3, rfl, hF8_0, hF8_1, hF8_2, hF8_3⟩ := k66_openM hM8; have hx8_0 : w15.cell? ⟨go5, (x5_1 : Int).toNat * 4, none⟩ = some (.float .f64 b_fr8_0) := hcc8 0 _ rfl; have hx8_1 : w15.cell? ⟨go5, (x5_1 : Int).toNat * 4 + 1, none⟩ = some (.float .f64 b_fr8_1) := hcc8 1 _ rfl; have hx8_2 : w15.cell? ⟨go5, (x5_1 : Int).toNat * 4 + 2, none⟩ = some (.float .f64 b_fr8_2) := hcc8 2 _ rfl; have hx8_3 : w15.cell? ⟨go5, (x5_1 : Int).toNat * 4 + 3, none⟩ = some (.float .f64 b_fr8_3) := hcc8 3 _ rfl; have hf8_0 : w15.frozen? ⟨go5, (x5_1 : Int).toNat * 4, none⟩ = false := hfr8 0; have hf8_1 : w15.frozen? ⟨go5, (x5_1 : Int).toNat * 4 + 1, none⟩ = false := hfr8 1; have hf8_2 : w15.frozen? ⟨go5, (x5_1 : Int).toNat * 4 + 2, none⟩ = false := hfr8 2; have hf8_3 : w15.frozen? ⟨go5, (x5_1 : Int).toNat * 4 + 3, none⟩ = false := hfr8 3; clear hcl8 hcc8 hfr8; (try clear hM8); replace p8 := eq_true p8; replace q8 := eq_true q8; have HX16 := Aside0.mk (show Kd.R k66 66 w15 w0.heap.size (fun k_ => (P0_ k_ ∨ w.heap.size ≤ k_)) (.slice (some ⟨go5, 0, none⟩) x0_1.length co9) y197 from (by (with_reducible repeat (first | apply Kd.R_alloc | apply Kd.R_drewN | apply Kd.R_drew)); exact HO_0.out)); obtain ⟨ce16, hcl16, hM16, hcc16, hfr16⟩ := Kd.R_elem HX16.out z66 (x5_1 : Int) (of_decide_eq_true (by first | (with_reducible assumption) | assumption)) (by have h_ : (x5_1 : Int) < ((x0_1.length : Int) : Int) := of_decide_eq_true (by first | (with_reducible assumption) | assumption); first | exact h_ | (have e_ := (Kd.R_reads' HO_0.out).1; omega) | simpa using h_); obtain ⟨b_fr16_0, b_fr16_1, b_fr16_2, b_fr16_3, rfl, hF16_0, hF16_1, hF16_2, hF16_3⟩ := k66_openM hM16; have HP16 := Kd.R_seg HX16.out (x5_1 : Int) (of_decide_eq_true (by first | (with_reducible assumption) | assumption)) (by have h_ : (x5_1 : Int) < ((x0_1.length : Int) : Int) := of_decide_eq_true (by first | (with_reducible assumption) | assumption); first | exact h_ | (have e_ := (Kd.R_reads' HO_0.out).1; omega) | simpa using h_) (seg := [.float .f64 b_ft198]) (j := 3) hcl16 hcc16 (show 4 ≤ 4 from by decide) (x' := (⟨(rd_T66 y197 x5_1).f0, (rd_T66 y197 x5_1).f1, (rd_T66 y197 x5_1).f2, ft198⟩ : S66)) (k66_mkM _ _ _ (⟨(rd_T66 y197 x5_1).f0, (rd_T66 y197 x5_1).f1, (rd_T66 y197 x5_1).f2, ft198⟩ : S66) hF16_0 hF16_1 hF16_2 hF_ft198) (fun _ hk => hk); have hx16_3 := hcc16 3 _ rfl; (try simp only [show (k66).sz = 4 from rfl, Nat.mul_one, Nat.add_zero] at hx16_3); have hf16_3 := hfr16 3; (try simp only [show (k66).sz = 4 from rfl, Nat.mul_one, Nat.add_zero] at hf16_3); clear hcl16 hcc16 hfr16; (try clear hM16)) | ((with_reducible refine gate_store (t := 23) (p := 41) rfl ?_); refine store_event (t := 23) (p := 41) (v := ?vo_w17) (w1 := (w15.setCell ⟨go5, (x5_1 : Int).toNat * 4 + 3, none⟩ (.float .f64 b_ft198))) ?hg ?ho ?hn ?hr ?_; (case ho => rfl); (case hg => rfl); (case hn => rfl); (case hr => first | (go_simp; done) | (go_simp; rfl)); intro w17 hw; have hg : w15.grownBy w17 (some go5) := (by rw [hw]; exact HP16.2); have hp_ : Kd.R k66 66 w17 w0.heap.size (fun k_ => (P0_ k_ ∨ w.heap.size ≤ k_)) (.slice (some ⟨go5, 0, none⟩) x0_1.length co9) y199 := (by rw [hw, Ny199.out]; exact HP16.1); clear HP16; have n0_ := Aside0.mk (hp_); have n1_ := Aside0.mk ((by rw [hw]; exact below_set (HB.out) GB5.out : Below w0.heap.size w0 w17)); have n2_ := Aside0.mk (Kept.of_grown (S := (fun k_ => P0_ k_)) hg (by repeat (first | (with_reducible first | exact HK.out | apply Kept.alloc | apply Kept.drewN | apply Kept.drew) | exact HK.out)) (fun k_ e_ => (HO_0.out.1 k_ e_))); clear HO_0; clear HB; clear HK; have HO_0 := n0_; have HB := n1_; have HK := n2_; clear n0_ n1_ n2_; clear hg hw hp_))
          go_roundg k1
          case measure => have := HK1.out; omega
          case rel => exact ⟨(y199), (wrap64 ((wrap64 ((wrap64 ((wrap64 (x1_1 + 1)) + 1)) + 1)) + 1)), (wrap64 (x5_1 + 1)), (by first | rfl | (simp; done) | (simp [*]; done)), (by first | rfl | (simp; done) | (simp [*]; done)), H', ⟨by have := HK1.out; omega⟩, ⟨by (with_reducible repeat (first | apply Kd.R_alloc | apply Kd.R_drewN | apply Kd.R_drew)); exact HO_0.out⟩, ⟨by repeat (first | (with_reducible first | exact HK.out | apply Kept.alloc | apply Kept.drewN | apply Kept.drew) | exact HK.out)⟩, ⟨by repeat (first | (with_reducible first | exact HB.out | apply below_alloc | apply pw_below_drewN | apply below_drew1) | exact HB.out)⟩⟩
        · rw [if_neg c4] at H
          exact absurd H (by simp)
      · rw [if_neg c3] at H
        have c3b0 : decide (x5_1 < (x0_1.length : Int)) = false := decide_eq_false c3
        clear c3
        simp only [Option.some.injEq, Prod.mk.injEq] at H
        obtain ⟨rfl, rfl⟩ := H
        obtain ⟨Ao18, co18, eo18⟩ := Kd.R_slice HO_0.out
        subst eo18
        go_wp2
        go_ret
        exact ⟨by first | rfl | (simp [errW_none, errW_some] <;> rfl) | (simp [*, errW_none, errW_some] <;> rfl), by (with_reducible repeat (first | apply Kd.R_alloc | apply Kd.R_drewN | apply Kd.R_drew)); exact HO_0.out, by repeat (first | (with_reducible first | exact HB.out | apply below_alloc | apply pw_below_drewN | apply below_drew1) | exact HB.out), by repeat (first | (with_reducible first | exact HK.out | apply Kept.alloc | apply Kept.drewN | apply Kept.drew) | exact HK.out)⟩

/-! ### laws_heldMotionS: function 47 -/
def laws_heldMotionS.l0 : Nat → List (S66) → Int → Int → Option (Int)
  | 0, _, _, _ => none
  | k + 1, x0, x1, x5 => if x5 < (x0.length : Int) then (if 0 ≤ x5 then (if (fcmp .neq .f64 ((rd_T66 x0 x5).f0) (fint .f64 x1)) = true then (some (-1)) else (if (fcmp .neq .f64 ((rd_T66 x0 x5).f1) (fint .f64 (wrap64 (x1 + 1)))) = true then (some (-1)) else (if (fcmp .neq .f64 ((rd_T66 x0 x5).f2) (fint .f64 (wrap64 ((wrap64 (x1 + 1)) + 1)))) = true then (some (-1)) else (if (fcmp .neq .f64 ((rd_T66 x0 x5).f3) (fint .f64 (wrap64 ((wrap64 ((wrap64 (x1 + 1)) + 1)) + 1)))) = true then (some (-1)) else (laws_heldMotionS.l0 k x0 (wrap64 ((wrap64 ((wrap64 ((wrap64 (x1 + 1)) + 1)) + 1)) + 1)) (wrap64 (x5 + 1))))))) else (none)) else (some x1)
def laws_heldMotionS.f (k : Nat) (l0 : List (S66)) (a1 : Int) : Option (Int) := laws_heldMotionS.l0 k l0 a1 0
theorem laws_heldMotionS.mono_l : ∀ k, (∀ y0 y1 y2, LeO (laws_heldMotionS.l0 k y0 y1 y2) (laws_heldMotionS.l0 (k + 1) y0 y1 y2))
  | 0 => fun _ _ _ r h => by simp [laws_heldMotionS.l0] at h
  | k + 1 => by
    have ih0 := laws_heldMotionS.mono_l k
    · intro y0 y1 y2
      unfold laws_heldMotionS.l0
      repeat' first
      | (with_reducible exact ih0 _ _ _)
      | (with_reducible exact LeO.refl _)
      | (with_reducible exact LeO.none _)
      | (with_reducible refine LeO.ite ?_ ?_)
      | (with_reducible refine LeO.bind ?_ (fun _ => ?_))
      | exact ih0 _ _ _
      | exact LeO.none _
      | refine LeO.ite ?_ ?_
      | refine LeO.bind ?_ (fun _ => ?_)
theorem laws_heldMotionS.mono : ∀ a0 a1 k, LeO (laws_heldMotionS.f k a0 a1) (laws_heldMotionS.f (k + 1) a0 a1) := by
  intro a0 a1 k
  have ih0 := laws_heldMotionS.mono_l k
  unfold laws_heldMotionS.f
  repeat' first
      | (with_reducible exact ih0 _ _ _)
      | (with_reducible exact LeO.refl _)
      | (with_reducible exact LeO.none _)
      | (with_reducible refine LeO.ite ?_ ?_)
      | (with_reducible refine LeO.bind ?_ (fun _ => ?_))
      | exact ih0 _ _ _
      | exact LeO.none _
      | refine LeO.ite ?_ ?_
      | refine LeO.bind ?_ (fun _ => ?_)
set_option maxHeartbeats 8000000 in
set_option maxRecDepth 100000 in
theorem laws_heldMotionS.calls (k : Nat) (A0 : Option Addr) (c0 : Nat) (l0 : List (S66)) (a1 : Int) (r : Int) (w : World) (hr0 : Kd.C k66 w A0 l0.length l0) (hc0 : l0.length ≤ c0) (h : laws_heldMotionS.f k l0 a1 = some r) :
    Calls Try.prog 47 #[.slice A0 l0.length c0, .int .i64 a1] w fun e w' => e = .returned (.int .i64 r) ∧ Drawn0 w w' := by
  have HR0 := Aside0.mk hr0
  have HC0 := Aside0.mk hc0
  clear hr0 hc0
  have H : (laws_heldMotionS.l0 k l0 a1 0) = some r := h
  clear h
  have H' := Aside0.mk H
  clear H
  go_enter Try.func47, Try.ntmps47
  go_wp2
  go_loopg [1, 5] k (fun kq v1 v5 w' => ∃ (x1_1 : Int) (x5_1 : Int), v1 = .int .i64 x1_1 ∧ v5 = .int .i64 x5_1 ∧ Aside0 (laws_heldMotionS.l0 kq l0 x1_1 x5_1 = some r) ∧ Aside0 (kq ≤ k) ∧ Drawn0 w w')
  case atStart => exact ⟨(a1), (0), (by first | rfl | (simp; done) | (simp [*]; done)), (by first | rfl | (simp; done) | (simp [*]; done)), H', ⟨Nat.le_refl _⟩, by repeat (first | exact Drawn0.refl _ | apply Drawn0.step)⟩
  case round =>
    clear H'
    try clear p2
    obtain ⟨x1_1, x5_1, rfl, rfl, HA, HK1, ⟨m1, rfl⟩⟩ := hrel
    cases gk with
    | zero => exact absurd HA.out (by simp [laws_heldMotionS.l0])
    | succ k1 =>
      have H := HA.out
      clear HA
      simp only [laws_heldMotionS.l0] at H
      by_cases c3 : x5_1 < (l0.length : Int)
      · rw [if_pos c3] at H
        have c3b0 : decide (x5_1 < (l0.length : Int)) = true := decide_eq_true c3
        clear c3
        by_cases c4 : 0 ≤ x5_1
        · rw [if_pos c4] at H
          have c4b0 : decide (0 ≤ x5_1) = true := decide_eq_true c4
          clear c4
          obtain ⟨fr200_0, hfr200_0⟩ : ∃ y_ : Fl, y_ = ((rd_T66 l0 x5_1).f0) := ⟨_, rfl⟩
          replace H : (if (fcmp .neq .f64 fr200_0 (fint .f64 x1_1)) = true then (some (-1)) else (if (fcmp .neq .f64 ((rd_T66 l0 x5_1).f1) (fint .f64 (wrap64 (x1_1 + 1)))) = true then (some (-1)) else (if (fcmp .neq .f64 ((rd_T66 l0 x5_1).f2) (fint .f64 (wrap64 ((wrap64 (x1_1 + 1)) + 1)))) = true then (some (-1)) else (if (fcmp .neq .f64 ((rd_T66 l0 x5_1).f3) (fint .f64 (wrap64 ((wrap64 ((wrap64 (x1_1 + 1)) + 1)) + 1)))) = true then (some (-1)) else (laws_heldMotionS.l0 k1 l0 (wrap64 ((wrap64 ((wrap64 ((wrap64 (x1_1 + 1)) + 1)) + 1)) + 1)) (wrap64 (x5_1 + 1))))))) = some r := by first | (rw [hfr200_0]; with_reducible exact H) | (have H2_ := (Option.bind_some _ _).symm.trans H; rw [hfr200_0]; with_reducible exact H2_) | (have H2_ := (Option.bind_some _ _).symm.trans H; with_reducible exact H2_) | with_reducible exact H | (rw [hfr200_0]; exact H) | exact H
          have Nfr200_0 := Aside0.mk hfr200_0
          clear hfr200_0
          obtain ⟨fr200_1, hfr200_1⟩ : ∃ y_ : Fl, y_ = ((rd_T66 l0 x5_1).f1) := ⟨_, rfl⟩
          replace H : (if (fcmp .neq .f64 fr200_0 (fint .f64 x1_1)) = true then (some (-1)) else (if (fcmp .neq .f64 fr200_1 (fint .f64 (wrap64 (x1_1 + 1)))) = true then (some (-1)) else (if (fcmp .neq .f64 ((rd_T66 l0 x5_1).f2) (fint .f64 (wrap64 ((wrap64 (x1_1 + 1)) + 1)))) = true then (some (-1)) else (if (fcmp .neq .f64 ((rd_T66 l0 x5_1).f3) (fint .f64 (wrap64 ((wrap64 ((wrap64 (x1_1 + 1)) + 1)) + 1)))) = true then (some (-1)) else (laws_heldMotionS.l0 k1 l0 (wrap64 ((wrap64 ((wrap64 ((wrap64 (x1_1 + 1)) + 1)) + 1)) + 1)) (wrap64 (x5_1 + 1))))))) = some r := by first | (rw [hfr200_1]; with_reducible exact H) | (have H2_ := (Option.bind_some _ _).symm.trans H; rw [hfr200_1]; with_reducible exact H2_) | (have H2_ := (Option.bind_some _ _).symm.trans H; with_reducible exact H2_) | with_reducible exact H | (rw [hfr200_1]; exact H) | exact H
          have Nfr200_1 := Aside0.mk hfr200_1
          clear hfr200_1
          obtain ⟨fr200_2, hfr200_2⟩ : ∃ y_ : Fl, y_ = ((rd_T66 l0 x5_1).f2) := ⟨_, rfl⟩
          replace H : (if (fcmp .neq .f64 fr200_0 (fint .f64 x1_1)) = true then (some (-1)) else (if (fcmp .neq .f64 fr200_1 (fint .f64 (wrap64 (x1_1 + 1)))) = true then (some (-1)) else (if (fcmp .neq .f64 fr200_2 (fint .f64 (wrap64 ((wrap64 (x1_1 + 1)) + 1)))) = true then (some (-1)) else (if (fcmp .neq .f64 ((rd_T66 l0 x5_1).f3) (fint .f64 (wrap64 ((wrap64 ((wrap64 (x1_1 + 1)) + 1)) + 1)))) = true then (some (-1)) else (laws_heldMotionS.l0 k1 l0 (wrap64 ((wrap64 ((wrap64 ((wrap64 (x1_1 + 1)) + 1)) + 1)) + 1)) (wrap64 (x5_1 + 1))))))) = some r := by first | (rw [hfr200_2]; with_reducible exact H) | (have H2_ := (Option.bind_some _ _).symm.trans H; rw [hfr200_2]; with_reducible exact H2_) | (have H2_ := (Option.bind_some _ _).symm.trans H; with_reducible exact H2_) | with_reducible exact H | (rw [hfr200_2]; exact H) | exact H
          have Nfr200_2 := Aside0.mk hfr200_2
          clear hfr200_2
          obtain ⟨fr200_3, hfr200_3⟩ : ∃ y_ : Fl, y_ = ((rd_T66 l0 x5_1).f3) := ⟨_, rfl⟩
          replace H : (if (fcmp .neq .f64 fr200_0 (fint .f64 x1_1)) = true then (some (-1)) else (if (fcmp .neq .f64 fr200_1 (fint .f64 (wrap64 (x1_1 + 1)))) = true then (some (-1)) else (if (fcmp .neq .f64 fr200_2 (fint .f64 (wrap64 ((wrap64 (x1_1 + 1)) + 1)))) = true then (some (-1)) else (if (fcmp .neq .f64 fr200_3 (fint .f64 (wrap64 ((wrap64 ((wrap64 (x1_1 + 1)) + 1)) + 1)))) = true then (some (-1)) else (laws_heldMotionS.l0 k1 l0 (wrap64 ((wrap64 ((wrap64 ((wrap64 (x1_1 + 1)) + 1)) + 1)) + 1)) (wrap64 (x5_1 + 1))))))) = some r := by first | (rw [hfr200_3]; with_reducible exact H) | (have H2_ := (Option.bind_some _ _).symm.trans H; rw [hfr200_3]; with_reducible exact H2_) | (have H2_ := (Option.bind_some _ _).symm.trans H; with_reducible exact H2_) | with_reducible exact H | (rw [hfr200_3]; exact H) | exact H
          have Nfr200_3 := Aside0.mk hfr200_3
          clear hfr200_3
          obtain ⟨ft201, hft201⟩ : ∃ y_ : Fl, y_ = (fint .f64 x1_1) := ⟨_, rfl⟩
          replace H : (if (fcmp .neq .f64 fr200_0 ft201) = true then (some (-1)) else (if (fcmp .neq .f64 fr200_1 (fint .f64 (wrap64 (x1_1 + 1)))) = true then (some (-1)) else (if (fcmp .neq .f64 fr200_2 (fint .f64 (wrap64 ((wrap64 (x1_1 + 1)) + 1)))) = true then (some (-1)) else (if (fcmp .neq .f64 fr200_3 (fint .f64 (wrap64 ((wrap64 ((wrap64 (x1_1 + 1)) + 1)) + 1)))) = true then (some (-1)) else (laws_heldMotionS.l0 k1 l0 (wrap64 ((wrap64 ((wrap64 ((wrap64 (x1_1 + 1)) + 1)) + 1)) + 1)) (wrap64 (x5_1 + 1))))))) = some r := by first | (rw [hft201]; with_reducible exact H) | (have H2_ := (Option.bind_some _ _).symm.trans H; rw [hft201]; with_reducible exact H2_) | (have H2_ := (Option.bind_some _ _).symm.trans H; with_reducible exact H2_) | with_reducible exact H | (rw [hft201]; exact H) | exact H
          have Nft201 := Aside0.mk hft201
          clear hft201
          by_cases c5 : (fcmp .neq .f64 fr200_0 ft201) = true
          · rw [if_pos c5] at H
            have c5b0 : (fcmp .neq .f64 fr200_0 ft201) = true := c5
            clear c5
            obtain rfl := Option.some.inj H
            have p200 : 0 ≤ (x5_1 : Int) := of_decide_eq_true (by first | (with_reducible assumption) | assumption)
            have q200 : x5_1 < (l0.length : Int) := of_decide_eq_true (by first | (with_reducible assumption) | assumption)
            obtain ⟨ad200, b_fr200_0, b_fr200_1, b_fr200_2, b_fr200_3, e200, hx200_0, hx200_1, hx200_2, hx200_3, hF200_0, hF200_1, hF200_2, hF200_3⟩ := at_T66 HR0.out x5_1 p200 q200
            have hF_fr200_0 := hF200_0.trans Nfr200_0.out.symm
            clear hF200_0
            have hF_fr200_1 := hF200_1.trans Nfr200_1.out.symm
            clear hF200_1
            have hF_fr200_2 := hF200_2.trans Nfr200_2.out.symm
            clear hF200_2
            have hF_fr200_3 := hF200_3.trans Nfr200_3.out.symm
            clear hF200_3
            cases e200
            replace p200 := eq_true p200
            replace q200 := eq_true q200
            go_wp2_with (first | ((with_reducible refine gate_dst (N := 18) rfl ?_); refine fint_event rfl (N := 18) rfl rfl .f64 .i64 x1_1 Try.underlying3 Try.underlying23 rfl ?_; intro b_ft201 nf_ hF_; replace hF_ := hF_.trans Nft201.out.symm; have hF_ft201 := hF_; clear hF_))
            go_ret
            exact ⟨by first | rfl | (simp; done) | (simp [*]; done), by repeat (first | exact Drawn0.refl _ | apply Drawn0.step)⟩
          · rw [if_neg c5] at H
            have c5b0 : (fcmp .neq .f64 fr200_0 ft201) = false := by simpa using c5
            clear c5
            obtain ⟨ft203, hft203⟩ : ∃ y_ : Fl, y_ = (fint .f64 (wrap64 (x1_1 + 1))) := ⟨_, rfl⟩
            replace H : (if (fcmp .neq .f64 fr200_1 ft203) = true then (some (-1)) else (if (fcmp .neq .f64 fr200_2 (fint .f64 (wrap64 ((wrap64 (x1_1 + 1)) + 1)))) = true then (some (-1)) else (if (fcmp .neq .f64 fr200_3 (fint .f64 (wrap64 ((wrap64 ((wrap64 (x1_1 + 1)) + 1)) + 1)))) = true then (some (-1)) else (laws_heldMotionS.l0 k1 l0 (wrap64 ((wrap64 ((wrap64 ((wrap64 (x1_1 + 1)) + 1)) + 1)) + 1)) (wrap64 (x5_1 + 1)))))) = some r := by first | (rw [hft203]; with_reducible exact H) | (have H2_ := (Option.bind_some _ _).symm.trans H; rw [hft203]; with_reducible exact H2_) | (have H2_ := (Option.bind_some _ _).symm.trans H; with_reducible exact H2_) | with_reducible exact H | (rw [hft203]; exact H) | exact H
            have Nft203 := Aside0.mk hft203
            clear hft203
            by_cases c6 : (fcmp .neq .f64 fr200_1 ft203) = true
            · rw [if_pos c6] at H
              have c6b0 : (fcmp .neq .f64 fr200_1 ft203) = true := c6
              clear c6
              obtain rfl := Option.some.inj H
              have p200 : 0 ≤ (x5_1 : Int) := of_decide_eq_true (by first | (with_reducible assumption) | assumption)
              have q200 : x5_1 < (l0.length : Int) := of_decide_eq_true (by first | (with_reducible assumption) | assumption)
              obtain ⟨ad200, b_fr200_0, b_fr200_1, b_fr200_2, b_fr200_3, e200, hx200_0, hx200_1, hx200_2, hx200_3, hF200_0, hF200_1, hF200_2, hF200_3⟩ := at_T66 HR0.out x5_1 p200 q200
              have hF_fr200_0 := hF200_0.trans Nfr200_0.out.symm
              clear hF200_0
              have hF_fr200_1 := hF200_1.trans Nfr200_1.out.symm
              clear hF200_1
              have hF_fr200_2 := hF200_2.trans Nfr200_2.out.symm
              clear hF200_2
              have hF_fr200_3 := hF200_3.trans Nfr200_3.out.symm
              clear hF200_3
              cases e200
              replace p200 := eq_true p200
              replace q200 := eq_true q200
              go_wp2_with (first | ((with_reducible refine gate_dst (N := 18) rfl ?_); refine fint_event rfl (N := 18) rfl rfl .f64 .i64 x1_1 Try.underlying3 Try.underlying23 rfl ?_; intro b_ft201 nf_ hF_; replace hF_ := hF_.trans Nft201.out.symm; have hF_ft201 := hF_; clear hF_; skip; have p202 : 0 ≤ (x5_1 : Int) := of_decide_eq_true (by first | (with_reducible assumption) | assumption); have q202 : x5_1 < (l0.length : Int) := of_decide_eq_true (by first | (with_reducible assumption) | assumption); obtain ⟨ad202, b_gr202_0, b_gr202_1, b_gr202_2, b_gr202_3, e202, hx202_0, hx202_1, hx202_2, hx202_3, hF202_0, hF202_1, hF202_2, hF202_3⟩ := at_T66 HR0.out x5_1 p202 q202; clear hF202_0; clear hF202_1; clear hF202_2; clear hF202_3; obtain rfl : ad200 = ad202 := (by injection e202); have ef_ := Option.some.inj (hx200_0.symm.trans hx202_0); injection ef_ with _ ef_; subst ef_; have ef_ := Option.some.inj (hx200_1.symm.trans hx202_1); injection ef_ with _ ef_; subst ef_; have ef_ := Option.some.inj (hx200_2.symm.trans hx202_2); injection ef_ with _ ef_; subst ef_; have ef_ := Option.some.inj (hx200_3.symm.trans hx202_3); injection ef_ with _ ef_; subst ef_; replace p202 := eq_true p202; replace q202 := eq_true q202) | ((with_reducible refine gate_dst (N := 28) rfl ?_); refine fint_event rfl (N := 28) rfl rfl .f64 .i64 (wrap64 (x1_1 + 1)) Try.underlying3 Try.underlying23 rfl ?_; intro b_ft203 nf_ hF_; replace hF_ := hF_.trans Nft203.out.symm; have hF_ft203 := hF_; clear hF_))
              go_ret
              exact ⟨by first | rfl | (simp; done) | (simp [*]; done), by repeat (first | exact Drawn0.refl _ | apply Drawn0.step)⟩
            · rw [if_neg c6] at H
              have c6b0 : (fcmp .neq .f64 fr200_1 ft203) = false := by simpa using c6
              clear c6
              obtain ⟨ft205, hft205⟩ : ∃ y_ : Fl, y_ = (fint .f64 (wrap64 ((wrap64 (x1_1 + 1)) + 1))) := ⟨_, rfl⟩
              replace H : (if (fcmp .neq .f64 fr200_2 ft205) = true then (some (-1)) else (if (fcmp .neq .f64 fr200_3 (fint .f64 (wrap64 ((wrap64 ((wrap64 (x1_1 + 1)) + 1)) + 1)))) = true then (some (-1)) else (laws_heldMotionS.l0 k1 l0 (wrap64 ((wrap64 ((wrap64 ((wrap64 (x1_1 + 1)) + 1)) + 1)) + 1)) (wrap64 (x5_1 + 1))))) = some r := by first | (rw [hft205]; with_reducible exact H) | (have H2_ := (Option.bind_some _ _).symm.trans H; rw [hft205]; with_reducible exact H2_) | (have H2_ := (Option.bind_some _ _).symm.trans H; with_reducible exact H2_) | with_reducible exact H | (rw [hft205]; exact H) | exact H
              have Nft205 := Aside0.mk hft205
              clear hft205
              by_cases c7 : (fcmp .neq .f64 fr200_2 ft205) = true
              · rw [if_pos c7] at H
                have c7b0 : (fcmp .neq .f64 fr200_2 ft205) = true := c7
                clear c7
                obtain rfl := Option.some.inj H
                have p200 : 0 ≤ (x5_1 : Int) := of_decide_eq_true (by first | (with_reducible assumption) | assumption)
                have q200 : x5_1 < (l0.length : Int) := of_decide_eq_true (by first | (with_reducible assumption) | assumption)
                obtain ⟨ad200, b_fr200_0, b_fr200_1, b_fr200_2, b_fr200_3, e200, hx200_0, hx200_1, hx200_2, hx200_3, hF200_0, hF200_1, hF200_2, hF200_3⟩ := at_T66 HR0.out x5_1 p200 q200
                have hF_fr200_0 := hF200_0.trans Nfr200_0.out.symm
                clear hF200_0
                have hF_fr200_1 := hF200_1.trans Nfr200_1.out.symm
                clear hF200_1
                have hF_fr200_2 := hF200_2.trans Nfr200_2.out.symm
                clear hF200_2
                have hF_fr200_3 := hF200_3.trans Nfr200_3.out.symm
                clear hF200_3
                cases e200
                replace p200 := eq_true p200
                replace q200 := eq_true q200
                go_wp2_with (first | ((with_reducible refine gate_dst (N := 18) rfl ?_); refine fint_event rfl (N := 18) rfl rfl .f64 .i64 x1_1 Try.underlying3 Try.underlying23 rfl ?_; intro b_ft201 nf_ hF_; replace hF_ := hF_.trans Nft201.out.symm; have hF_ft201 := hF_; clear hF_; skip; have p202 : 0 ≤ (x5_1 : Int) := of_decide_eq_true (by first | (with_reducible assumption) | assumption); have q202 : x5_1 < (l0.length : Int) := of_decide_eq_true (by first | (with_reducible assumption) | assumption); obtain ⟨ad202, b_gr202_0, b_gr202_1, b_gr202_2, b_gr202_3, e202, hx202_0, hx202_1, hx202_2, hx202_3, hF202_0, hF202_1, hF202_2, hF202_3⟩ := at_T66 HR0.out x5_1 p202 q202; clear hF202_0; clear hF202_1; clear hF202_2; clear hF202_3; obtain rfl : ad200 = ad202 := (by injection e202); have ef_ := Option.some.inj (hx200_0.symm.trans hx202_0); injection ef_ with _ ef_; subst ef_; have ef_ := Option.some.inj (hx200_1.symm.trans hx202_1); injection ef_ with _ ef_; subst ef_; have ef_ := Option.some.inj (hx200_2.symm.trans hx202_2); injection ef_ with _ ef_; subst ef_; have ef_ := Option.some.inj (hx200_3.symm.trans hx202_3); injection ef_ with _ ef_; subst ef_; replace p202 := eq_true p202; replace q202 := eq_true q202) | ((with_reducible refine gate_dst (N := 28) rfl ?_); refine fint_event rfl (N := 28) rfl rfl .f64 .i64 (wrap64 (x1_1 + 1)) Try.underlying3 Try.underlying23 rfl ?_; intro b_ft203 nf_ hF_; replace hF_ := hF_.trans Nft203.out.symm; have hF_ft203 := hF_; clear hF_; skip; have p204 : 0 ≤ (x5_1 : Int) := of_decide_eq_true (by first | (with_reducible assumption) | assumption); have q204 : x5_1 < (l0.length : Int) := of_decide_eq_true (by first | (with_reducible assumption) | assumption); obtain ⟨ad204, b_gr204_0, b_gr204_1, b_gr204_2, b_gr204_3, e204, hx204_0, hx204_1, hx204_2, hx204_3, hF204_0, hF204_1, hF204_2, hF204_3⟩ := at_T66 HR0.out x5_1 p204 q204; clear hF204_0; clear hF204_1; clear hF204_2; clear hF204_3; obtain rfl : ad200 = ad204 := (by injection e204); have ef_ := Option.some.inj (hx200_0.symm.trans hx204_0); injection ef_ with _ ef_; subst ef_; have ef_ := Option.some.inj (hx200_1.symm.trans hx204_1); injection ef_ with _ ef_; subst ef_; have ef_ := Option.some.inj (hx200_2.symm.trans hx204_2); injection ef_ with _ ef_; subst ef_; have ef_ := Option.some.inj (hx200_3.symm.trans hx204_3); injection ef_ with _ ef_; subst ef_; replace p204 := eq_true p204; replace q204 := eq_true q204) | ((with_reducible refine gate_dst (N := 38) rfl ?_); refine fint_event rfl (N := 38) rfl rfl .f64 .i64 (wrap64 ((wrap64 (x1_1 + 1)) + 1)) Try.underlying3 Try.underlying23 rfl ?_; intro b_ft205 nf_ hF_; replace hF_ := hF_.trans Nft205.out.symm; have hF_ft205 := hF_; clear hF_))
                go_ret
                exact ⟨by first | rfl | (simp; done) | (simp [*]; done), by repeat (first | exact Drawn0.refl _ | apply Drawn0.step)⟩
              · rw [if_neg c7] at H
                have c7b0 : (fcmp .neq .f64 fr200_2 ft205) = false := by simpa using c7
                clear c7
                obtain ⟨ft207, hft207⟩ : ∃ y_ : Fl, y_ = (fint .f64 (wrap64 ((wrap64 ((wrap64 (x1_1 + 1)) + 1)) + 1))) := ⟨_, rfl⟩
                replace H : (if (fcmp .neq .f64 fr200_3 ft207) = true then (some (-1)) else (laws_heldMotionS.l0 k1 l0 (wrap64 ((wrap64 ((wrap64 ((wrap64 (x1_1 + 1)) + 1)) + 1)) + 1)) (wrap64 (x5_1 + 1)))) = some r := by first | (rw [hft207]; with_reducible exact H) | (have H2_ := (Option.bind_some _ _).symm.trans H; rw [hft207]; with_reducible exact H2_) | (have H2_ := (Option.bind_some _ _).symm.trans H; with_reducible exact H2_) | with_reducible exact H | (rw [hft207]; exact H) | exact H
                have Nft207 := Aside0.mk hft207
                clear hft207
                by_cases c8 : (fcmp .neq .f64 fr200_3 ft207) = true
                · rw [if_pos c8] at H
                  have c8b0 : (fcmp .neq .f64 fr200_3 ft207) = true := c8
                  clear c8
                  obtain rfl := Option.some.inj H
                  have p200 : 0 ≤ (x5_1 : Int) := of_decide_eq_true (by first | (with_reducible assumption) | assumption)
                  have q200 : x5_1 < (l0.length : Int) := of_decide_eq_true (by first | (with_reducible assumption) | assumption)
                  obtain ⟨ad200, b_fr200_0, b_fr200_1, b_fr200_2, b_fr200_3, e200, hx200_0, hx200_1, hx200_2, hx200_3, hF200_0, hF200_1, hF200_2, hF200_3⟩ := at_T66 HR0.out x5_1 p200 q200
                  have hF_fr200_0 := hF200_0.trans Nfr200_0.out.symm
                  clear hF200_0
                  have hF_fr200_1 := hF200_1.trans Nfr200_1.out.symm
                  clear hF200_1
                  have hF_fr200_2 := hF200_2.trans Nfr200_2.out.symm
                  clear hF200_2
                  have hF_fr200_3 := hF200_3.trans Nfr200_3.out.symm
                  clear hF200_3
                  cases e200
                  replace p200 := eq_true p200
                  replace q200 := eq_true q200
                  go_wp2_with (first | ((with_reducible refine gate_dst (N := 18) rfl ?_); refine fint_event rfl (N := 18) rfl rfl .f64 .i64 x1_1 Try.underlying3 Try.underlying23 rfl ?_; intro b_ft201 nf_ hF_; replace hF_ := hF_.trans Nft201.out.symm; have hF_ft201 := hF_; clear hF_; skip; have p202 : 0 ≤ (x5_1 : Int) := of_decide_eq_true (by first | (with_reducible assumption) | assumption); have q202 : x5_1 < (l0.length : Int) := of_decide_eq_true (by first | (with_reducible assumption) | assumption); obtain ⟨ad202, b_gr202_0, b_gr202_1, b_gr202_2, b_gr202_3, e202, hx202_0, hx202_1, hx202_2, hx202_3, hF202_0, hF202_1, hF202_2, hF202_3⟩ := at_T66 HR0.out x5_1 p202 q202; clear hF202_0; clear hF202_1; clear hF202_2; clear hF202_3; obtain rfl : ad200 = ad202 := (by injection e202); have ef_ := Option.some.inj (hx200_0.symm.trans hx202_0); injection ef_ with _ ef_; subst ef_; have ef_ := Option.some.inj (hx200_1.symm.trans hx202_1); injection ef_ with _ ef_; subst ef_; have ef_ := Option.some.inj (hx200_2.symm.trans hx202_2); injection ef_ with _ ef_; subst ef_; have ef_ := Option.some.inj (hx200_3.symm.trans hx202_3); injection ef_ with _ ef_; subst ef_; replace p202 := eq_true p202; replace q202 := eq_true q202) | ((with_reducible refine gate_dst (N := 28) rfl ?_); refine fint_event rfl (N := 28) rfl rfl .f64 .i64 (wrap64 (x1_1 + 1)) Try.underlying3 Try.underlying23 rfl ?_; intro b_ft203 nf_ hF_; replace hF_ := hF_.trans Nft203.out.symm; have hF_ft203 := hF_; clear hF_; skip; have p204 : 0 ≤ (x5_1 : Int) := of_decide_eq_true (by first | (with_reducible assumption) | assumption); have q204 : x5_1 < (l0.length : Int) := of_decide_eq_true (by first | (with_reducible assumption) | assumption); obtain ⟨ad204, b_gr204_0, b_gr204_1, b_gr204_2, b_gr204_3, e204, hx204_0, hx204_1, hx204_2, hx204_3, hF204_0, hF204_1, hF204_2, hF204_3⟩ := at_T66 HR0.out x5_1 p204 q204; clear hF204_0; clear hF204_1; clear hF204_2; clear hF204_3; obtain rfl : ad200 = ad204 := (by injection e204); have ef_ := Option.some.inj (hx200_0.symm.trans hx204_0); injection ef_ with _ ef_; subst ef_; have ef_ := Option.some.inj (hx200_1.symm.trans hx204_1); injection ef_ with _ ef_; subst ef_; have ef_ := Option.some.inj (hx200_2.symm.trans hx204_2); injection ef_ with _ ef_; subst ef_; have ef_ := Option.some.inj (hx200_3.symm.trans hx204_3); injection ef_ with _ ef_; subst ef_; replace p204 := eq_true p204; replace q204 := eq_true q204) | ((with_reducible refine gate_dst (N := 38) rfl ?_); refine fint_event rfl (N := 38) rfl rfl .f64 .i64 (wrap64 ((wrap64 (x1_1 + 1)) + 1)) Try.underlying3 Try.underlying23 rfl ?_; intro b_ft205 nf_ hF_; replace hF_ := hF_.trans Nft205.out.symm; have hF_ft205 := hF_; clear hF_; skip; have p206 : 0 ≤ (x5_1 : Int) := of_decide_eq_true (by first | (with_reducible assumption) | assumption); have q206 : x5_1 < (l0.length : Int) := of_decide_eq_true (by first | (with_reducible assumption) | assumption); obtain ⟨ad206, b_gr206_0, b_gr206_1, b_gr206_2, b_gr206_3, e206, hx206_0, hx206_1, hx206_2, hx206_3, hF206_0, hF206_1, hF206_2, hF206_3⟩ := at_T66 HR0.out x5_1 p206 q206; clear hF206_0; clear hF206_1; clear hF206_2; clear hF206_3; obtain rfl : ad200 = ad206 := (by injection e206); have ef_ := Option.some.inj (hx200_0.symm.trans hx206_0); injection ef_ with _ ef_; subst ef_; have ef_ := Option.some.inj (hx200_1.symm.trans hx206_1); injection ef_ with _ ef_; subst ef_; have ef_ := Option.some.inj (hx200_2.symm.trans hx206_2); injection ef_ with _ ef_; subst ef_; have ef_ := Option.some.inj (hx200_3.symm.trans hx206_3); injection ef_ with _ ef_; subst ef_; replace p206 := eq_true p206; replace q206 := eq_true q206) | ((with_reducible refine gate_dst (N := 48) rfl ?_); refine fint_event rfl (N := 48) rfl rfl .f64 .i64 (wrap64 ((wrap64 ((wrap64 (x1_1 + 1)) + 1)) + 1)) Try.underlying3 Try.underlying23 rfl ?_; intro b_ft207 nf_ hF_; replace hF_ := hF_.trans Nft207.out.symm; have hF_ft207 := hF_; clear hF_))
                  go_ret
                  exact ⟨by first | rfl | (simp; done) | (simp [*]; done), by repeat (first | exact Drawn0.refl _ | apply Drawn0.step)⟩
                · rw [if_neg c8] at H
                  have c8b0 : (fcmp .neq .f64 fr200_3 ft207) = false := by simpa using c8
                  clear c8
                  have H' := Aside0.mk H
                  clear H
                  have p200 : 0 ≤ (x5_1 : Int) := of_decide_eq_true (by first | (with_reducible assumption) | assumption)
                  have q200 : x5_1 < (l0.length : Int) := of_decide_eq_true (by first | (with_reducible assumption) | assumption)
                  obtain ⟨ad200, b_fr200_0, b_fr200_1, b_fr200_2, b_fr200_3, e200, hx200_0, hx200_1, hx200_2, hx200_3, hF200_0, hF200_1, hF200_2, hF200_3⟩ := at_T66 HR0.out x5_1 p200 q200
                  have hF_fr200_0 := hF200_0.trans Nfr200_0.out.symm
                  clear hF200_0
                  have hF_fr200_1 := hF200_1.trans Nfr200_1.out.symm
                  clear hF200_1
                  have hF_fr200_2 := hF200_2.trans Nfr200_2.out.symm
                  clear hF200_2
                  have hF_fr200_3 := hF200_3.trans Nfr200_3.out.symm
                  clear hF200_3
                  cases e200
                  replace p200 := eq_true p200
                  replace q200 := eq_true q200
                  go_wp2_with (first | ((with_reducible refine gate_dst (N := 18) rfl ?_); refine fint_event rfl (N := 18) rfl rfl .f64 .i64 x1_1 Try.underlying3 Try.underlying23 rfl ?_; intro b_ft201 nf_ hF_; replace hF_ := hF_.trans Nft201.out.symm; have hF_ft201 := hF_; clear hF_; skip; have p202 : 0 ≤ (x5_1 : Int) := of_decide_eq_true (by first | (with_reducible assumption) | assumption); have q202 : x5_1 < (l0.length : Int) := of_decide_eq_true (by first | (with_reducible assumption) | assumption); obtain ⟨ad202, b_gr202_0, b_gr202_1, b_gr202_2, b_gr202_3, e202, hx202_0, hx202_1, hx202_2, hx202_3, hF202_0, hF202_1, hF202_2, hF202_3⟩ := at_T66 HR0.out x5_1 p202 q202; clear hF202_0; clear hF202_1; clear hF202_2; clear hF202_3; obtain rfl : ad200 = ad202 := (by injection e202); have ef_ := Option.some.inj (hx200_0.symm.trans hx202_0); injection ef_ with _ ef_; subst ef_; have ef_ := Option.some.inj (hx200_1.symm.trans hx202_1); injection ef_ with _ ef_; subst ef_; have ef_ := Option.some.inj (hx200_2.symm.trans hx202_2); injection ef_ with _ ef_; subst ef_; have ef_ := Option.some.inj (hx200_3.symm.trans hx202_3); injection ef_ with _ ef_; subst ef_; replace p202 := eq_true p202; replace q202 := eq_true q202) | ((with_reducible refine gate_dst (N := 28) rfl ?_); refine fint_event rfl (N := 28) rfl rfl .f64 .i64 (wrap64 (x1_1 + 1)) Try.underlying3 Try.underlying23 rfl ?_; intro b_ft203 nf_ hF_; replace hF_ := hF_.trans Nft203.out.symm; have hF_ft203 := hF_; clear hF_; skip; have p204 : 0 ≤ (x5_1 : Int) := of_decide_eq_true (by first | (with_reducible assumption) | assumption); have q204 : x5_1 < (l0.length : Int) := of_decide_eq_true (by first | (with_reducible assumption) | assumption); obtain ⟨ad204, b_gr204_0, b_gr204_1, b_gr204_2, b_gr204_3, e204, hx204_0, hx204_1, hx204_2, hx204_3, hF204_0, hF204_1, hF204_2, hF204_3⟩ := at_T66 HR0.out x5_1 p204 q204; clear hF204_0; clear hF204_1; clear hF204_2; clear hF204_3; obtain rfl : ad200 = ad204 := (by injection e204); have ef_ := Option.some.inj (hx200_0.symm.trans hx204_0); injection ef_ with _ ef_; subst ef_; have ef_ := Option.some.inj (hx200_1.symm.trans hx204_1); injection ef_ with _ ef_; subst ef_; have ef_ := Option.some.inj (hx200_2.symm.trans hx204_2); injection ef_ with _ ef_; subst ef_; have ef_ := Option.some.inj (hx200_3.symm.trans hx204_3); injection ef_ with _ ef_; subst ef_; replace p204 := eq_true p204; replace q204 := eq_true q204) | ((with_reducible refine gate_dst (N := 38) rfl ?_); refine fint_event rfl (N := 38) rfl rfl .f64 .i64 (wrap64 ((wrap64 (x1_1 + 1)) + 1)) Try.underlying3 Try.underlying23 rfl ?_; intro b_ft205 nf_ hF_; replace hF_ := hF_.trans Nft205.out.symm; have hF_ft205 := hF_; clear hF_; skip; have p206 : 0 ≤ (x5_1 : Int) := of_decide_eq_true (by first | (with_reducible assumption) | assumption); have q206 : x5_1 < (l0.length : Int) := of_decide_eq_true (by first | (with_reducible assumption) | assumption); obtain ⟨ad206, b_gr206_0, b_gr206_1, b_gr206_2, b_gr206_3, e206, hx206_0, hx206_1, hx206_2, hx206_3, hF206_0, hF206_1, hF206_2, hF206_3⟩ := at_T66 HR0.out x5_1 p206 q206; clear hF206_0; clear hF206_1; clear hF206_2; clear hF206_3; obtain rfl : ad200 = ad206 := (by injection e206); have ef_ := Option.some.inj (hx200_0.symm.trans hx206_0); injection ef_ with _ ef_; subst ef_; have ef_ := Option.some.inj (hx200_1.symm.trans hx206_1); injection ef_ with _ ef_; subst ef_; have ef_ := Option.some.inj (hx200_2.symm.trans hx206_2); injection ef_ with _ ef_; subst ef_; have ef_ := Option.some.inj (hx200_3.symm.trans hx206_3); injection ef_ with _ ef_; subst ef_; replace p206 := eq_true p206; replace q206 := eq_true q206) | ((with_reducible refine gate_dst (N := 48) rfl ?_); refine fint_event rfl (N := 48) rfl rfl .f64 .i64 (wrap64 ((wrap64 ((wrap64 (x1_1 + 1)) + 1)) + 1)) Try.underlying3 Try.underlying23 rfl ?_; intro b_ft207 nf_ hF_; replace hF_ := hF_.trans Nft207.out.symm; have hF_ft207 := hF_; clear hF_))
                  go_roundg k1
                  case measure => have := HK1.out; omega
                  case rel => exact ⟨(wrap64 ((wrap64 ((wrap64 ((wrap64 (x1_1 + 1)) + 1)) + 1)) + 1)), (wrap64 (x5_1 + 1)), (by first | rfl | (simp; done) | (simp [*]; done)), (by first | rfl | (simp; done) | (simp [*]; done)), H', ⟨by have := HK1.out; omega⟩, by repeat (first | exact Drawn0.refl _ | apply Drawn0.step)⟩
        · rw [if_neg c4] at H
          exact absurd H (by simp)
      · rw [if_neg c3] at H
        have c3b0 : decide (x5_1 < (l0.length : Int)) = false := decide_eq_false c3
        clear c3
        obtain rfl := Option.some.inj H
        go_wp2
        go_ret
        exact ⟨by first | rfl | (simp; done) | (simp [*]; done), by repeat (first | exact Drawn0.refl _ | apply Drawn0.step)⟩

end Go.Proofs.Ytfopdbdamkfglaa.QFnExactFly
