/- Lean functions that tell what the Go functions used by one law answer, and for each a proof that the Go code comes to just these answers; no condition. Printed by this session's own program over the kit's printer. -/
import Derived.Test.YtkginilghcepbaaWSq
import Derived.Test.YtkginilghcepbaaQFnExactUsedx0
namespace Go.Proofs.Ytkginilghcepbaa.QFnExactUsed
open Go.RowKit Go.Proofs.YtkginilghcepbaaW.PrintWords Go.Proofs.YtkginilghcepbaaW.PrintLast Go.Proofs.YtkginilghcepbaaW.PrintMore
attribute [local go_sem] max2_int min2_int max_two min_two max_three min_three max_four min_four   -- for this text's walks alone
attribute [local go_sem high] go_eql go_neq go_lss go_leq go_gtr go_geq go_store   -- for this text's walks alone
set_option linter.unusedVariables false
set_option linter.unusedSimpArgs false

/-! ### laws_eqFrac: function 16 -/
def laws_eqFrac.f (a0_0 : Int) (a0_1 : Int) (a1_0 : Int) (a1_1 : Int) : Option (Bool) := if a0_0 = a1_0 then (if a0_1 = a1_1 then (some true) else (some false)) else (some false)
set_option maxHeartbeats 8000000 in
set_option maxRecDepth 100000 in
theorem laws_eqFrac.calls (a0_0 : Int) (a0_1 : Int) (a1_0 : Int) (a1_1 : Int) (r : Bool) (w : World) (h : laws_eqFrac.f a0_0 a0_1 a1_0 a1_1 = some r) :
  Calls Try.prog 16 #[.agg #[.int .i64 a0_0, .int .i64 a0_1], .agg #[.int .i64 a1_0, .int .i64 a1_1]] w fun e w' => e = .returned (.bool r) ∧ Below w.heap.size w w' := by
 have o6 := Try.underlying26
 have HB := mk_ (Below.refl w.heap.size w)
 have H : (if a0_0 = a1_0 then (if a0_1 = a1_1 then (some true) else (some false)) else (some false)) = some r := h
 clear h; by_cases c3 : a0_0 = a1_0
 ·rw [if_pos c3] at H; have c9 : (a0_0 == a1_0) = true := beq_iff_eq.mpr c3; have d0 : (a0_0 != a1_0) = false := bne_eq_false_iff_eq.mpr c3; clear c3; by_cases c4 : a0_1 = a1_1
  ·rw [if_pos c4] at H; have d1 : (a0_1 == a1_1) = true := beq_iff_eq.mpr c4; have j9 : (a0_1 != a1_1) = false := bne_eq_false_iff_eq.mpr c4; clear c4; obtain rfl := Option.some.inj H
   go_enter Try.func16, Try.ntmps16
   go_wp2_with (first | ((with_reducible refine gd_ 2 rfl ?_); refine box_event ?hg (N := 2) ?hd (cs := #[.int .i64 a0_0, .int .i64 a0_1]) (t := 26) ?hr ?_; (case hd => rfl); (case hg => rfl); (case hr => exact hr_); intro j1 hg w5 hbox hb; have a3 := mk_ (hbox); have b7 := gb_ hg HB; replace HB := bp_ HB hb; have j2 := b7; clear hb hbox hg) | ((with_reducible refine gd_ 3 rfl ?_); refine box_event ?hg (N := 3) ?hd (cs := #[.int .i64 a1_0, .int .i64 a1_1]) (t := 26) ?hr ?_; (case hd => rfl); (case hg => rfl); (case hr => exact hr_); intro j3 hg w6 hbox hb; have b1 := mk_ (hbox); have b8 := gb_ hg HB; replace HB := bp_ HB hb; have j4 := b8; have a5 := nb_ hg a3; replace a3 := bl_ a3 hb; have b3 := ns_ a5; clear hb hbox hg; have n7 := a5.out; have n8 := b3.out; have l2 := bc0_ a3; have l3 := bc1_ a3; have l4 := bf_ a3 0; have l5 := bf_ a3 1; have l6 := bc0_ b1; have l7 := bc1_ b1; have l8 := bf_ b1 0; have l9 := bf_ b1 1))
   go_ret
   exact ⟨re_, hw_ HB⟩
  ·rw [if_neg c4] at H; have d1 : (a0_1 == a1_1) = false := beq_eq_false_iff_ne.mpr c4; have j9 : (a0_1 != a1_1) = true := bne_iff_ne.mpr c4; obtain rfl := Option.some.inj H
   go_enter Try.func16, Try.ntmps16
   go_wp2_with (first | ((with_reducible refine gd_ 2 rfl ?_); refine box_event ?hg (N := 2) ?hd (cs := #[.int .i64 a0_0, .int .i64 a0_1]) (t := 26) ?hr ?_; (case hd => rfl); (case hg => rfl); (case hr => exact hr_); intro j1 hg o3 hbox hb; have a3 := mk_ (hbox); have b7 := gb_ hg HB; replace HB := bp_ HB hb; have j2 := b7; clear hb hbox hg) | ((with_reducible refine gd_ 3 rfl ?_); refine box_event ?hg (N := 3) ?hd (cs := #[.int .i64 a1_0, .int .i64 a1_1]) (t := 26) ?hr ?_; (case hd => rfl); (case hg => rfl); (case hr => exact hr_); intro j3 hg o4 hbox hb; have b1 := mk_ (hbox); have b8 := gb_ hg HB; replace HB := bp_ HB hb; have j4 := b8; have a5 := nb_ hg a3; replace a3 := bl_ a3 hb; have b3 := ns_ a5; clear hb hbox hg; have m7 := a5.out; have m8 := b3.out; have g1 := bc0_ a3; have g2 := bc1_ a3; have g3 := bf_ a3 0; have g4 := bf_ a3 1; have g5 := bc0_ b1; have g6 := bc1_ b1; have g7 := bf_ b1 0; have g8 := bf_ b1 1))
   go_ret
   exact ⟨re_, hw_ HB⟩
 ·rw [if_neg c3] at H; have c9 : (a0_0 == a1_0) = false := beq_eq_false_iff_ne.mpr c3; have d0 : (a0_0 != a1_0) = true := bne_iff_ne.mpr c3; obtain rfl := Option.some.inj H
  go_enter Try.func16, Try.ntmps16
  go_wp2_with (first | ((with_reducible refine gd_ 2 rfl ?_); refine box_event ?hg (N := 2) ?hd (cs := #[.int .i64 a0_0, .int .i64 a0_1]) (t := 26) ?hr ?_; (case hd => rfl); (case hg => rfl); (case hr => exact hr_); intro j1 hg o7 hbox hb; have a3 := mk_ (hbox); have b7 := gb_ hg HB; replace HB := bp_ HB hb; have j2 := b7; clear hb hbox hg) | ((with_reducible refine gd_ 3 rfl ?_); refine box_event ?hg (N := 3) ?hd (cs := #[.int .i64 a1_0, .int .i64 a1_1]) (t := 26) ?hr ?_; (case hd => rfl); (case hg => rfl); (case hr => exact hr_); intro j3 hg o8 hbox hb; have b1 := mk_ (hbox); have b8 := gb_ hg HB; replace HB := bp_ HB hb; have j4 := b8; have a5 := nb_ hg a3; replace a3 := bl_ a3 hb; have b3 := ns_ a5; clear hb hbox hg; have m9 := a5.out; have n0 := b3.out; have g9 := bc0_ a3; have h2 := bc1_ a3; have h3 := bf_ a3 0; have h4 := bf_ a3 1; have h5 := bc0_ b1; have h6 := bc1_ b1; have h7 := bf_ b1 0; have h8 := bf_ b1 1))
  go_ret
  exact ⟨re_, hw_ HB⟩

/-! ### laws_eqStep6: function 57 -/
def laws_eqStep6.f (a0_0 : Int) (a0_1 : Int) (a1_0 : Int) (a1_1 : Int) : Option (Bool) := if a0_0 = a1_0 then (if a0_1 = a1_1 then (some true) else (some false)) else (some false)
set_option maxHeartbeats 8000000 in
set_option maxRecDepth 100000 in
theorem laws_eqStep6.calls (a0_0 : Int) (a0_1 : Int) (a1_0 : Int) (a1_1 : Int) (r : Bool) (w : World) (h : laws_eqStep6.f a0_0 a0_1 a1_0 a1_1 = some r) :
  Calls Try.prog 57 #[.agg #[.int .i64 a0_0, .int .i64 a0_1], .agg #[.int .i64 a1_0, .int .i64 a1_1]] w fun e w' => e = .returned (.bool r) ∧ Below w.heap.size w w' := by
 have n1 := Try.underlying101
 have HB := mk_ (Below.refl w.heap.size w)
 have H : (if a0_0 = a1_0 then (if a0_1 = a1_1 then (some true) else (some false)) else (some false)) = some r := h
 clear h; by_cases c3 : a0_0 = a1_0
 ·rw [if_pos c3] at H; have c9 : (a0_0 == a1_0) = true := beq_iff_eq.mpr c3; have d0 : (a0_0 != a1_0) = false := bne_eq_false_iff_eq.mpr c3; clear c3; by_cases c4 : a0_1 = a1_1
  ·rw [if_pos c4] at H; have d1 : (a0_1 == a1_1) = true := beq_iff_eq.mpr c4; have j9 : (a0_1 != a1_1) = false := bne_eq_false_iff_eq.mpr c4; clear c4; obtain rfl := Option.some.inj H
   go_enter Try.func57, Try.ntmps57
   go_wp2_with (first | ((with_reducible refine gd_ 2 rfl ?_); refine box_event ?hg (N := 2) ?hd (cs := #[.int .i64 a0_0, .int .i64 a0_1]) (t := 101) ?hr ?_; (case hd => rfl); (case hg => rfl); (case hr => exact hr_); intro j5 hg w5 hbox hb; have a4 := mk_ (hbox); have b9 := gb_ hg HB; replace HB := bp_ HB hb; have j6 := b9; clear hb hbox hg) | ((with_reducible refine gd_ 3 rfl ?_); refine box_event ?hg (N := 3) ?hd (cs := #[.int .i64 a1_0, .int .i64 a1_1]) (t := 101) ?hr ?_; (case hd => rfl); (case hg => rfl); (case hr => exact hr_); intro j7 hg w6 hbox hb; have b2 := mk_ (hbox); have c2 := gb_ hg HB; replace HB := bp_ HB hb; have j8 := c2; have a6 := nb_ hg a4; replace a4 := bl_ a4 hb; have b4 := ns_ a6; clear hb hbox hg; have n7 := a6.out; have n8 := b4.out; have l2 := bc0_ a4; have l3 := bc1_ a4; have l4 := bf_ a4 0; have l5 := bf_ a4 1; have l6 := bc0_ b2; have l7 := bc1_ b2; have l8 := bf_ b2 0; have l9 := bf_ b2 1))
   go_ret
   exact ⟨re_, hw_ HB⟩
  ·rw [if_neg c4] at H; have d1 : (a0_1 == a1_1) = false := beq_eq_false_iff_ne.mpr c4; have j9 : (a0_1 != a1_1) = true := bne_iff_ne.mpr c4; obtain rfl := Option.some.inj H
   go_enter Try.func57, Try.ntmps57
   go_wp2_with (first | ((with_reducible refine gd_ 2 rfl ?_); refine box_event ?hg (N := 2) ?hd (cs := #[.int .i64 a0_0, .int .i64 a0_1]) (t := 101) ?hr ?_; (case hd => rfl); (case hg => rfl); (case hr => exact hr_); intro j5 hg o3 hbox hb; have a4 := mk_ (hbox); have b9 := gb_ hg HB; replace HB := bp_ HB hb; have j6 := b9; clear hb hbox hg) | ((with_reducible refine gd_ 3 rfl ?_); refine box_event ?hg (N := 3) ?hd (cs := #[.int .i64 a1_0, .int .i64 a1_1]) (t := 101) ?hr ?_; (case hd => rfl); (case hg => rfl); (case hr => exact hr_); intro j7 hg o4 hbox hb; have b2 := mk_ (hbox); have c2 := gb_ hg HB; replace HB := bp_ HB hb; have j8 := c2; have a6 := nb_ hg a4; replace a4 := bl_ a4 hb; have b4 := ns_ a6; clear hb hbox hg; have m7 := a6.out; have m8 := b4.out; have g1 := bc0_ a4; have g2 := bc1_ a4; have g3 := bf_ a4 0; have g4 := bf_ a4 1; have g5 := bc0_ b2; have g6 := bc1_ b2; have g7 := bf_ b2 0; have g8 := bf_ b2 1))
   go_ret
   exact ⟨re_, hw_ HB⟩
 ·rw [if_neg c3] at H; have c9 : (a0_0 == a1_0) = false := beq_eq_false_iff_ne.mpr c3; have d0 : (a0_0 != a1_0) = true := bne_iff_ne.mpr c3; obtain rfl := Option.some.inj H
  go_enter Try.func57, Try.ntmps57
  go_wp2_with (first | ((with_reducible refine gd_ 2 rfl ?_); refine box_event ?hg (N := 2) ?hd (cs := #[.int .i64 a0_0, .int .i64 a0_1]) (t := 101) ?hr ?_; (case hd => rfl); (case hg => rfl); (case hr => exact hr_); intro j5 hg o7 hbox hb; have a4 := mk_ (hbox); have b9 := gb_ hg HB; replace HB := bp_ HB hb; have j6 := b9; clear hb hbox hg) | ((with_reducible refine gd_ 3 rfl ?_); refine box_event ?hg (N := 3) ?hd (cs := #[.int .i64 a1_0, .int .i64 a1_1]) (t := 101) ?hr ?_; (case hd => rfl); (case hg => rfl); (case hr => exact hr_); intro j7 hg o8 hbox hb; have b2 := mk_ (hbox); have c2 := gb_ hg HB; replace HB := bp_ HB hb; have j8 := c2; have a6 := nb_ hg a4; replace a4 := bl_ a4 hb; have b4 := ns_ a6; clear hb hbox hg; have m9 := a6.out; have n0 := b4.out; have g9 := bc0_ a4; have h2 := bc1_ a4; have h3 := bf_ a4 0; have h4 := bf_ a4 1; have h5 := bc0_ b2; have h6 := bc1_ b2; have h7 := bf_ b2 0; have h8 := bf_ b2 1))
  go_ret
  exact ⟨re_, hw_ HB⟩

/-! ### laws_eqStep6S: function 17 -/
def laws_eqStep6S.l0 : Nat → List (S101) → List (S101) → Int → Option (Bool)
 | 0, _, _, _ => none
 | k + 1, x0, x1, x5 => if x5 < (x0.length : Int) then (if 0 ≤ x5 then (if x5 < (x1.length : Int) then ((laws_eqStep6.f ((rd_T101 x0 x5).f0) ((rd_T101 x0 x5).f1) ((rd_T101 x1 x5).f0) ((rd_T101 x1 x5).f1)).bind fun m0 => (if m0 = true then (laws_eqStep6S.l0 k x0 x1 (wrap64 (x5 + 1))) else (some false))) else (none)) else (none)) else (some true)
def laws_eqStep6S.f (k : Nat) (l0 : List (S101)) (l1 : List (S101)) : Option (Bool) := if (l0.length : Int) = (l1.length : Int) then (laws_eqStep6S.l0 k l0 l1 0) else (some false)
theorem laws_eqStep6S.mono_l : ∀ k, (∀ y0 y1 y2, LeO (laws_eqStep6S.l0 k y0 y1 y2) (laws_eqStep6S.l0 (k + 1) y0 y1 y2))
 | 0 => fun _ _ _ r h => by simp [laws_eqStep6S.l0] at h
 | k + 1 => by
  have g0 := laws_eqStep6S.mono_l k
  ·intro y0 y1 y2
   unfold laws_eqStep6S.l0
   repeat' first
   | (with_reducible exact g0 _ _ _)
   | (with_reducible exact LeO.refl _)
   | (with_reducible exact LeO.none _)
   | (with_reducible refine LeO.ite ?_ ?_)
   | (with_reducible refine LeO.bind ?_ (fun _ => ?_))
   | exact g0 _ _ _
   | exact LeO.none _
   | refine LeO.ite ?_ ?_
   | refine LeO.bind ?_ (fun _ => ?_)
theorem laws_eqStep6S.mono : ∀ a0 a1 k, LeO (laws_eqStep6S.f k a0 a1) (laws_eqStep6S.f (k + 1) a0 a1) := by
 intro a0 a1 k
 have g0 := laws_eqStep6S.mono_l k
 unfold laws_eqStep6S.f
 repeat' first
   | (with_reducible exact g0 _ _ _)
   | (with_reducible exact LeO.refl _)
   | (with_reducible exact LeO.none _)
   | (with_reducible refine LeO.ite ?_ ?_)
   | (with_reducible refine LeO.bind ?_ (fun _ => ?_))
   | exact g0 _ _ _
   | exact LeO.none _
   | refine LeO.ite ?_ ?_
   | refine LeO.bind ?_ (fun _ => ?_)
def laws_eqStep6S.T6 : Bool × List (List Nat × List Nat) := (true, [([], []), ([], []), ([0, 1], [0, 1]), ([2], [2]), ([], []), ([], []), ([4, 5], [4, 5]), ([6], [6]), ([3, 7], [3, 7]), ([8], [8])])
def laws_eqStep6S.B6 : List Nat := [0, 0, 3, 7, 0, 0, 48, 112, 255, 511]
theorem laws_eqStep6S.tab6 : rtab .any (opsOf Try.f17 6) = laws_eqStep6S.T6 := by kernel_rfl
theorem laws_eqStep6S.bits6 : waitsOk laws_eqStep6S.T6.2 laws_eqStep6S.B6 = true := by kernel_rfl
set_option maxHeartbeats 8000000 in
set_option maxRecDepth 100000 in
theorem laws_eqStep6S.calls (k : Nat) (A0 : Option Addr) (c0 : Nat) (l0 : List (S101)) (A1 : Option Addr) (c1 : Nat) (l1 : List (S101)) (r : Bool) (w : World) (hr0 : Kd.C k101 w A0 l0.length l0) (hc0 : l0.length ≤ c0) (hr1 : Kd.C k101 w A1 l1.length l1) (hc1 : l1.length ≤ c1) (h : laws_eqStep6S.f k l0 l1 = some r) :
  Calls Try.prog 17 #[.slice A0 l0.length c0, .slice A1 l1.length c1] w fun e w' => e = .returned (.bool r) ∧ Below w.heap.size w w' := by
 have n1 := Try.underlying101
 have n2 := mk_ hr0; have o9 := mk_ hc0; clear hr0 hc0; have n3 := mk_ hr1; have p0 := mk_ hc1; clear hr1 hc1; have HB := mk_ (Below.refl w.heap.size w)
 have H : (if (l0.length : Int) = (l1.length : Int) then (laws_eqStep6S.l0 k l0 l1 0) else (some false)) = some r := h
 clear h; by_cases c3 : (l0.length : Int) = (l1.length : Int)
 ·rw [if_pos c3] at H; have c9 : ((l0.length : Int) == (l1.length : Int)) = true := beq_iff_eq.mpr c3; have d0 : ((l0.length : Int) != (l1.length : Int)) = false := bne_eq_false_iff_eq.mpr c3
  have m2 : (l0.length == l1.length) = true := by first | simpa using c3 | (simp at c3 ⊢; omega)
  clear c3
  have H' := mk_ H
  clear H
  go_enter Try.func17, Try.ntmps17
  go_wp2
  go_loopg [5] k (fun kq v5 w' => ∃ (a2 : Int), v5 = .int .i64 a2 ∧ Aside0 (laws_eqStep6S.l0 kq l0 l1 a2 = some r) ∧ Aside0 (kq ≤ k) ∧ Aside0 (Below w.heap.size w w'))
  case atStart => exact ⟨(0), rf_, H', ⟨Nat.le_refl _⟩, ⟨hw_ HB⟩⟩
  case round =>
   clear H'; (try clear c1); (try clear c3)
   obtain ⟨a2, rfl, HA, n4, HB⟩ := hrel
   cases gk with
   | zero => exact absurd HA.out (by simp [laws_eqStep6S.l0])
   | succ k1 =>
    have H := HA.out; clear HA
    simp only [laws_eqStep6S.l0] at H
    by_cases c4 : a2 < (l0.length : Int)
    ·rw [if_pos c4] at H; have d1 : decide (a2 < (l0.length : Int)) = true := decide_eq_true c4; clear c4; by_cases c5 : 0 ≤ a2
     ·rw [if_pos c5] at H; have n9 : decide (0 ≤ a2) = true := decide_eq_true c5; clear c5; by_cases c6 : a2 < (l1.length : Int)
      ·rw [if_pos c6] at H; have o0 : decide (a2 < (l1.length : Int)) = true := decide_eq_true c6; clear c6; replace H := Option.bind_eq_some_iff.mp H; obtain ⟨m0, o5, H⟩ := H; (try dsimp only at H); have A7 := mk_ o5; clear o5; by_cases c8 : m0 = true
       ·subst c8; rw [if_pos rfl] at H
        have H' := mk_ H
        clear H
        try go_wp2
        replace HB := dH_ HB
        have d2 : 0 ≤ (a2 : Int) := od_
        have d3 : a2 < (l0.length : Int) := od_
        obtain ⟨b5, m3, a7, a8⟩ := at_T101 n2.out a2 d2 d3
        have hw180_1 := a8
        have hw180_0 := a7
        cases m3
        replace a7 := (HB.out.cell (World.block_lt_of_cell? w _ a7)).trans a7
        replace a8 := (HB.out.cell (World.block_lt_of_cell? w _ a8)).trans a8
        replace d2 := eq_true d2; replace d3 := eq_true d3
        have d4 : 0 ≤ (a2 : Int) := od_
        have d5 : a2 < (l1.length : Int) := od_
        obtain ⟨b6, m4, a9, b0⟩ := at_T101 n3.out a2 d4 d5
        have hw181_1 := b0
        have hw181_0 := a9
        cases m4
        replace a9 := (HB.out.cell (World.block_lt_of_cell? w _ a9)).trans a9
        replace b0 := (HB.out.cell (World.block_lt_of_cell? w _ b0)).trans b0
        replace d4 := eq_true d4; replace d5 := eq_true d5
        refine start_ (n := 10) (S := fun w' => w'.cell? (b5.add ((a2).toNat * 2)) = some (.int .i64 ((rd_T101 l0 a2).f0)) ∧ w'.cell? ⟨(b5.add ((a2).toNat * 2)).block, (b5.add ((a2).toNat * 2)).off + 1, none⟩ = some (.int .i64 ((rd_T101 l0 a2).f1)) ∧ w'.cell? (b6.add ((a2).toNat * 2)) = some (.int .i64 ((rd_T101 l1 a2).f0)) ∧ w'.cell? ⟨(b6.add ((a2).toNat * 2)).block, (b6.add ((a2).toNat * 2)).off + 1, none⟩ = some (.int .i64 ((rd_T101 l1 a2).f1))) (ds := []) (bs_ 10 0) (by kernel_rfl) rfl (by kernel_rfl) ⟨((HB.out.cell (World.block_lt_of_cell? w _ hw180_0)).trans hw180_0), ((HB.out.cell (World.block_lt_of_cell? w _ hw180_1)).trans hw180_1), ((HB.out.cell (World.block_lt_of_cell? w _ hw181_0)).trans hw181_0), ((HB.out.cell (World.block_lt_of_cell? w _ hw181_1)).trans hw181_1)⟩ (fun hHeld => ?_); refine with_tabW laws_eqStep6S.tab6 laws_eqStep6S.bits6 (fun HT_ HW_ => ?_)
        generalize wr.drew = w9 at HB a7 a8 a9 b0 hHeld ⊢
        refine pu_ HT_ 0 17 (bs_ 10 1) ?_; refine pu_ HT_ 1 18 (bs_ 10 3) ?_; refine pu_ HT_ 2 19 (bs_ 10 7) ?_; refine pu_ HT_ 4 21 (bs_ 10 23) ?_; refine pu_ HT_ 5 22 (bs_ 10 55) ?_; refine pu_ HT_ 6 23 (bs_ 10 119) ?_; refine tk_ HT_ HW_ 3 20 (bs_ 10 127) hHeld ?_; refine tk_ HT_ HW_ 7 24 (bs_ 10 255) hHeld ?_
        refine one_ (i := 8) (N := some 25) (bs_ 10 511) rfl rfl (one_of HT_.out (by kernel_rfl)) (by decide) (fun K hK => ?_)
        refine gs_ Try.func57 #[.agg #[.int .i64 ((rd_T101 l0 a2).f0), .int .i64 ((rd_T101 l0 a2).f1)], .agg #[.int .i64 ((rd_T101 l1 a2).f0), .int .i64 ((rd_T101 l1 a2).f1)]] ?_
        with_reducible refine (laws_eqStep6.calls ((rd_T101 l0 a2).f0) ((rd_T101 l0 a2).f1) ((rd_T101 l1 a2).f0) ((rd_T101 l1 a2).f1) true _ A7.out).mono ?_
        rintro e o3 ⟨rfl, hb⟩
        refine ⟨_, rfl, ?_⟩
        replace HB := hk_ HB hb
        (try clear hb); (try clear p1); (try clear hk); (try clear hi)
        refine hK.out _ _ ⟨((HB.out.cell (World.block_lt_of_cell? w _ hw180_0)).trans hw180_0), ((HB.out.cell (World.block_lt_of_cell? w _ hw180_1)).trans hw180_1), ((HB.out.cell (World.block_lt_of_cell? w _ hw181_0)).trans hw181_0), ((HB.out.cell (World.block_lt_of_cell? w _ hw181_1)).trans hw181_1)⟩ (fun hHeld => ?_)
        clear hK K; refine nm_ 25 ?_; refine pu_ HT_ 9 26 (bs_ 10 1023) ?_
        refine done_ (done_of HT_.out (by kernel_rfl)) ?_
        try go_wp2
        go_roundg k1
        case measure => have := n4.out; omega
        case rel => exact ⟨(wrap64 (a2 + 1)), rf_, H', ⟨by have := n4.out; omega⟩, ⟨hw_ HB⟩⟩
       ·replace c8 := Bool.eq_false_iff.mpr c8; subst c8; rw [if_neg (show ¬ (false = true) by decide)] at H; obtain rfl := Option.some.inj H
        try go_wp2
        replace HB := dH_ HB
        have d2 : 0 ≤ (a2 : Int) := od_
        have d3 : a2 < (l0.length : Int) := od_
        obtain ⟨b5, m3, a7, a8⟩ := at_T101 n2.out a2 d2 d3
        have hw180_1 := a8
        have hw180_0 := a7
        cases m3
        replace a7 := (HB.out.cell (World.block_lt_of_cell? w _ a7)).trans a7
        replace a8 := (HB.out.cell (World.block_lt_of_cell? w _ a8)).trans a8
        replace d2 := eq_true d2; replace d3 := eq_true d3
        have d4 : 0 ≤ (a2 : Int) := od_
        have d5 : a2 < (l1.length : Int) := od_
        obtain ⟨b6, m4, a9, b0⟩ := at_T101 n3.out a2 d4 d5
        have hw181_1 := b0
        have hw181_0 := a9
        cases m4
        replace a9 := (HB.out.cell (World.block_lt_of_cell? w _ a9)).trans a9
        replace b0 := (HB.out.cell (World.block_lt_of_cell? w _ b0)).trans b0
        replace d4 := eq_true d4; replace d5 := eq_true d5
        refine start_ (n := 10) (S := fun w' => w'.cell? (b5.add ((a2).toNat * 2)) = some (.int .i64 ((rd_T101 l0 a2).f0)) ∧ w'.cell? ⟨(b5.add ((a2).toNat * 2)).block, (b5.add ((a2).toNat * 2)).off + 1, none⟩ = some (.int .i64 ((rd_T101 l0 a2).f1)) ∧ w'.cell? (b6.add ((a2).toNat * 2)) = some (.int .i64 ((rd_T101 l1 a2).f0)) ∧ w'.cell? ⟨(b6.add ((a2).toNat * 2)).block, (b6.add ((a2).toNat * 2)).off + 1, none⟩ = some (.int .i64 ((rd_T101 l1 a2).f1))) (ds := []) (bs_ 10 0) (by kernel_rfl) rfl (by kernel_rfl) ⟨((HB.out.cell (World.block_lt_of_cell? w _ hw180_0)).trans hw180_0), ((HB.out.cell (World.block_lt_of_cell? w _ hw180_1)).trans hw180_1), ((HB.out.cell (World.block_lt_of_cell? w _ hw181_0)).trans hw181_0), ((HB.out.cell (World.block_lt_of_cell? w _ hw181_1)).trans hw181_1)⟩ (fun hHeld => ?_); refine with_tabW laws_eqStep6S.tab6 laws_eqStep6S.bits6 (fun HT_ HW_ => ?_)
        generalize wr.drew = o4 at HB a7 a8 a9 b0 hHeld ⊢
        refine pu_ HT_ 0 17 (bs_ 10 1) ?_; refine pu_ HT_ 1 18 (bs_ 10 3) ?_; refine pu_ HT_ 2 19 (bs_ 10 7) ?_; refine pu_ HT_ 4 21 (bs_ 10 23) ?_; refine pu_ HT_ 5 22 (bs_ 10 55) ?_; refine pu_ HT_ 6 23 (bs_ 10 119) ?_; refine tk_ HT_ HW_ 3 20 (bs_ 10 127) hHeld ?_; refine tk_ HT_ HW_ 7 24 (bs_ 10 255) hHeld ?_
        refine one_ (i := 8) (N := some 25) (bs_ 10 511) rfl rfl (one_of HT_.out (by kernel_rfl)) (by decide) (fun K hK => ?_)
        refine gs_ Try.func57 #[.agg #[.int .i64 ((rd_T101 l0 a2).f0), .int .i64 ((rd_T101 l0 a2).f1)], .agg #[.int .i64 ((rd_T101 l1 a2).f0), .int .i64 ((rd_T101 l1 a2).f1)]] ?_
        with_reducible refine (laws_eqStep6.calls ((rd_T101 l0 a2).f0) ((rd_T101 l0 a2).f1) ((rd_T101 l1 a2).f0) ((rd_T101 l1 a2).f1) false _ A7.out).mono ?_
        rintro e p2 ⟨rfl, hb⟩
        refine ⟨_, rfl, ?_⟩
        replace HB := hk_ HB hb
        (try clear hb); (try clear p1); (try clear hk); (try clear hi)
        refine hK.out _ _ ⟨((HB.out.cell (World.block_lt_of_cell? w _ hw180_0)).trans hw180_0), ((HB.out.cell (World.block_lt_of_cell? w _ hw180_1)).trans hw180_1), ((HB.out.cell (World.block_lt_of_cell? w _ hw181_0)).trans hw181_0), ((HB.out.cell (World.block_lt_of_cell? w _ hw181_1)).trans hw181_1)⟩ (fun hHeld => ?_)
        clear hK K; refine nm_ 25 ?_; refine pu_ HT_ 9 26 (bs_ 10 1023) ?_
        refine done_ (done_of HT_.out (by kernel_rfl)) ?_
        try go_wp2
        go_ret
        exact ⟨re_, hw_ HB⟩
      ·rw [if_neg c6] at H
       exact absurd H (by simp)
     ·rw [if_neg c5] at H
      exact absurd H (by simp)
    ·rw [if_neg c4] at H; have d1 : decide (a2 < (l0.length : Int)) = false := decide_eq_false c4; clear c4; obtain rfl := Option.some.inj H; go_wp2; go_ret
     exact ⟨re_, hw_ HB⟩
 ·rw [if_neg c3] at H; have c9 : ((l0.length : Int) == (l1.length : Int)) = false := beq_eq_false_iff_ne.mpr c3; have d0 : ((l0.length : Int) != (l1.length : Int)) = true := bne_iff_ne.mpr c3
  have m2 : (l0.length == l1.length) = false := by first | simpa using c3 | (simp at c3 ⊢; omega)
  obtain rfl := Option.some.inj H
  go_enter Try.func17, Try.ntmps17
  go_wp2; go_ret
  exact ⟨re_, hw_ HB⟩

/-! ### laws_eqIntS: function 18 -/
def laws_eqIntS.l0 : Nat → List Int → List Int → Int → Option (Bool)
 | 0, _, _, _ => none
 | k + 1, x0, x1, x5 => if x5 < (x0.length : Int) then (if 0 ≤ x5 then (if x5 < (x1.length : Int) then (if (rd x0 x5) = (rd x1 x5) then (laws_eqIntS.l0 k x0 x1 (wrap64 (x5 + 1))) else (some false)) else (none)) else (none)) else (some true)
def laws_eqIntS.f (k : Nat) (l0 : List Int) (l1 : List Int) : Option (Bool) := if (l0.length : Int) = (l1.length : Int) then (laws_eqIntS.l0 k l0 l1 0) else (some false)
theorem laws_eqIntS.mono_l : ∀ k, (∀ y0 y1 y2, LeO (laws_eqIntS.l0 k y0 y1 y2) (laws_eqIntS.l0 (k + 1) y0 y1 y2))
 | 0 => fun _ _ _ r h => by simp [laws_eqIntS.l0] at h
 | k + 1 => by
  have g0 := laws_eqIntS.mono_l k
  ·intro y0 y1 y2
   unfold laws_eqIntS.l0
   repeat' first
   | (with_reducible exact g0 _ _ _)
   | (with_reducible exact LeO.refl _)
   | (with_reducible exact LeO.none _)
   | (with_reducible refine LeO.ite ?_ ?_)
   | (with_reducible refine LeO.bind ?_ (fun _ => ?_))
   | exact g0 _ _ _
   | exact LeO.none _
   | refine LeO.ite ?_ ?_
   | refine LeO.bind ?_ (fun _ => ?_)
theorem laws_eqIntS.mono : ∀ a0 a1 k, LeO (laws_eqIntS.f k a0 a1) (laws_eqIntS.f (k + 1) a0 a1) := by
 intro a0 a1 k
 have g0 := laws_eqIntS.mono_l k
 unfold laws_eqIntS.f
 repeat' first
   | (with_reducible exact g0 _ _ _)
   | (with_reducible exact LeO.refl _)
   | (with_reducible exact LeO.none _)
   | (with_reducible refine LeO.ite ?_ ?_)
   | (with_reducible refine LeO.bind ?_ (fun _ => ?_))
   | exact g0 _ _ _
   | exact LeO.none _
   | refine LeO.ite ?_ ?_
   | refine LeO.bind ?_ (fun _ => ?_)
set_option maxHeartbeats 8000000 in
set_option maxRecDepth 100000 in
theorem laws_eqIntS.calls (k : Nat) (A0 : Option Addr) (c0 : Nat) (l0 : List Int) (A1 : Option Addr) (c1 : Nat) (l1 : List Int) (r : Bool) (w : World) (hr0 : Kd.C (Kd.int .i64) w A0 l0.length l0) (hc0 : l0.length ≤ c0) (hr1 : Kd.C (Kd.int .i64) w A1 l1.length l1) (hc1 : l1.length ≤ c1) (h : laws_eqIntS.f k l0 l1 = some r) :
  Calls Try.prog 18 #[.slice A0 l0.length c0, .slice A1 l1.length c1] w fun e w' => e = .returned (.bool r) ∧ Drawn0 w w' := by
 have n2 := mk_ hr0; have o9 := mk_ hc0; clear hr0 hc0; have n3 := mk_ hr1; have p0 := mk_ hc1; clear hr1 hc1
 have H : (if (l0.length : Int) = (l1.length : Int) then (laws_eqIntS.l0 k l0 l1 0) else (some false)) = some r := h
 clear h; by_cases c3 : (l0.length : Int) = (l1.length : Int)
 ·rw [if_pos c3] at H; have c9 : ((l0.length : Int) == (l1.length : Int)) = true := beq_iff_eq.mpr c3; have d0 : ((l0.length : Int) != (l1.length : Int)) = false := bne_eq_false_iff_eq.mpr c3
  have m2 : (l0.length == l1.length) = true := by first | simpa using c3 | (simp at c3 ⊢; omega)
  clear c3
  have H' := mk_ H
  clear H
  go_enter Try.func18, Try.ntmps18
  go_wp2
  repeat (go_quiet (fail); try go_wp2)
  go_loopg [5] k (fun kq v5 w' => ∃ (a2 : Int), v5 = .int .i64 a2 ∧ Aside0 (laws_eqIntS.l0 kq l0 l1 a2 = some r) ∧ Aside0 (kq ≤ k) ∧ Drawn0 w w')
  case atStart => exact ⟨(0), rf_, H', ⟨Nat.le_refl _⟩, by repeat (first | exact Drawn0.refl _ | apply Drawn0.step)⟩
  case round =>
   clear H'; (try clear c1); (try clear c3)
   obtain ⟨a2, rfl, HA, n4, ⟨m1, rfl⟩⟩ := hrel
   cases gk with
   | zero => exact absurd HA.out (by simp [laws_eqIntS.l0])
   | succ k1 =>
    have H := HA.out; clear HA
    simp only [laws_eqIntS.l0] at H
    by_cases c4 : a2 < (l0.length : Int)
    ·rw [if_pos c4] at H; have d1 : decide (a2 < (l0.length : Int)) = true := decide_eq_true c4; clear c4; by_cases c5 : 0 ≤ a2
     ·rw [if_pos c5] at H; have n9 : decide (0 ≤ a2) = true := decide_eq_true c5; clear c5; by_cases c6 : a2 < (l1.length : Int)
      ·rw [if_pos c6] at H; have o0 : decide (a2 < (l1.length : Int)) = true := decide_eq_true c6; clear c6; by_cases c7 : (rd l0 a2) = (rd l1 a2)
       ·rw [if_pos c7] at H; have o1 : ((rd l0 a2) == (rd l1 a2)) = true := beq_iff_eq.mpr c7; have o2 : ((rd l0 a2) != (rd l1 a2)) = false := bne_eq_false_iff_eq.mpr c7; clear c7
        have H' := mk_ H
        clear H
        have d6 : 0 ≤ (a2 : Int) := od_
        have d7 : a2 < (l0.length : Int) := od_
        obtain ⟨n5, m5, h9⟩ := Kd.at_int n2.out a2 d6 d7; cases m5; replace d6 := eq_true d6; replace d7 := eq_true d7
        have d8 : 0 ≤ (a2 : Int) := od_
        have d9 : a2 < (l1.length : Int) := od_
        obtain ⟨n6, m6, j0⟩ := Kd.at_int n3.out a2 d8 d9; cases m6; replace d8 := eq_true d8; replace d9 := eq_true d9; go_wp2
        repeat (go_quiet (fail); try go_wp2)
        go_roundg k1
        case measure => have := n4.out; omega
        case rel => exact ⟨(wrap64 (a2 + 1)), rf_, H', ⟨by have := n4.out; omega⟩, by repeat (first | exact Drawn0.refl _ | apply Drawn0.step)⟩
       ·rw [if_neg c7] at H; have o1 : ((rd l0 a2) == (rd l1 a2)) = false := beq_eq_false_iff_ne.mpr c7; have o2 : ((rd l0 a2) != (rd l1 a2)) = true := bne_iff_ne.mpr c7; obtain rfl := Option.some.inj H
        have d6 : 0 ≤ (a2 : Int) := od_
        have d7 : a2 < (l0.length : Int) := od_
        obtain ⟨n5, m5, h9⟩ := Kd.at_int n2.out a2 d6 d7; cases m5; replace d6 := eq_true d6; replace d7 := eq_true d7
        have d8 : 0 ≤ (a2 : Int) := od_
        have d9 : a2 < (l1.length : Int) := od_
        obtain ⟨n6, m6, j0⟩ := Kd.at_int n3.out a2 d8 d9; cases m6; replace d8 := eq_true d8; replace d9 := eq_true d9; go_wp2
        repeat (go_quiet (fail); try go_wp2)
        go_ret
        exact ⟨by first | rfl | (simp; done) | (simp [*]; done), by repeat (first | exact Drawn0.refl _ | apply Drawn0.step)⟩
      ·rw [if_neg c6] at H
       exact absurd H (by simp)
     ·rw [if_neg c5] at H
      exact absurd H (by simp)
    ·rw [if_neg c4] at H; have d1 : decide (a2 < (l0.length : Int)) = false := decide_eq_false c4; clear c4; obtain rfl := Option.some.inj H; go_wp2
     repeat (go_quiet (fail); try go_wp2)
     go_ret
     exact ⟨by first | rfl | (simp; done) | (simp [*]; done), by repeat (first | exact Drawn0.refl _ | apply Drawn0.step)⟩
 ·rw [if_neg c3] at H; have c9 : ((l0.length : Int) == (l1.length : Int)) = false := beq_eq_false_iff_ne.mpr c3; have d0 : ((l0.length : Int) != (l1.length : Int)) = true := bne_iff_ne.mpr c3
  have m2 : (l0.length == l1.length) = false := by first | simpa using c3 | (simp at c3 ⊢; omega)
  obtain rfl := Option.some.inj H
  go_enter Try.func18, Try.ntmps18
  go_wp2
  repeat (go_quiet (fail); try go_wp2)
  go_ret
  exact ⟨by first | rfl | (simp; done) | (simp [*]; done), by repeat (first | exact Drawn0.refl _ | apply Drawn0.step)⟩

end Go.Proofs.Ytkginilghcepbaa.QFnExactUsed
-- squeezed
