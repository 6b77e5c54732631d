/- Lean functions that tell what the Go functions used by one law answer, and for each a proof that the Go code comes to just these answers; no condition. Printed by this session's own program over the kit's printer. -/
import Derived.Test.YtkginilghcepbaaWSq
import Derived.Test.YtkginilghcepbaaQFnExactFlutterx0
namespace Go.Proofs.Ytkginilghcepbaa.QFnExactFlutter
open Go.RowKit Go.Proofs.YtkginilghcepbaaW.PrintWords Go.Proofs.YtkginilghcepbaaW.PrintLast Go.Proofs.YtkginilghcepbaaW.PrintMore
attribute [local go_sem] max2_int min2_int max_two min_two max_three min_three max_four min_four   -- for this text's walks alone
attribute [local go_sem high] go_eql go_neq go_lss go_leq go_gtr go_geq go_store   -- for this text's walks alone
set_option linter.unusedVariables false
set_option linter.unusedSimpArgs false

/-! ### spec_CxLess: function 58 -/
def spec_CxLess.f (a0_0 : Fl) (a0_1 : Fl) (a1_0 : Fl) (a1_1 : Fl) : Option (Fl × Fl) := some ((fop .sub .f64 a0_0 a1_0), (fop .sub .f64 a0_1 a1_1))
set_option maxHeartbeats 8000000 in
set_option maxRecDepth 100000 in
theorem spec_CxLess.calls (b_a0_0 : Nat) (a0_0 : Fl) (b_a0_1 : Nat) (a0_1 : Fl) (b_a1_0 : Nat) (a1_0 : Fl) (b_a1_1 : Nat) (a1_1 : Fl) (r1 : Fl) (r2 : Fl) (w : World) (hF_a0_0 : cn .f64 b_a0_0 = a0_0) (hF_a0_1 : cn .f64 b_a0_1 = a0_1) (hF_a1_0 : cn .f64 b_a1_0 = a1_0) (hF_a1_1 : cn .f64 b_a1_1 = a1_1) (h : spec_CxLess.f a0_0 a0_1 a1_0 a1_1 = some (r1, r2)) :
  Calls Try.prog 58 #[.agg #[.float .f64 b_a0_0, .float .f64 b_a0_1], .agg #[.float .f64 b_a1_0, .float .f64 b_a1_1]] w fun e w' => ∃ b_r1 b_r2 : Nat, e = .returned (.agg #[.float .f64 b_r1, .float .f64 b_r2]) ∧ cn .f64 b_r1 = r1 ∧ cn .f64 b_r2 = r2 ∧ Below w.heap.size w w' := by
 have o9 := Try.underlying39
 have HB := mk_ (Below.refl w.heap.size w)
 have H : (some ((fop .sub .f64 a0_0 a1_0), (fop .sub .f64 a0_1 a1_1))) = some (r1, r2) := h
 clear h
 obtain ⟨ft104, hft104⟩ : ∃ y_ : Fl, y_ = (fop .sub .f64 a0_0 a1_0) := ⟨_, rfl⟩
 replace H : (some (ft104, (fop .sub .f64 a0_1 a1_1))) = some (r1, r2) := by first | (rw [hft104]; with_reducible exact H) | (have H2_ := (Option.bind_some _ _).symm.trans H; rw [hft104]; with_reducible exact H2_) | (have H2_ := (Option.bind_some _ _).symm.trans H; with_reducible exact H2_) | with_reducible exact H | (rw [hft104]; exact H) | exact H
 have Nft104 := mk_ hft104; clear hft104
 obtain ⟨ft105, hft105⟩ : ∃ y_ : Fl, y_ = (fop .sub .f64 a0_1 a1_1) := ⟨_, rfl⟩
 replace H : (some (ft104, ft105)) = some (r1, r2) := by first | (rw [hft105]; with_reducible exact H) | (have H2_ := (Option.bind_some _ _).symm.trans H; rw [hft105]; with_reducible exact H2_) | (have H2_ := (Option.bind_some _ _).symm.trans H; with_reducible exact H2_) | with_reducible exact H | (rw [hft105]; exact H) | exact H
 have Nft105 := mk_ hft105; clear hft105
 simp only [Option.some.injEq, Prod.mk.injEq] at H
 obtain ⟨rfl, rfl⟩ := H
 go_enter Try.func58, Try.ntmps58
 go_wp2_with (first | ((with_reducible refine gd_ 2 rfl ?_); refine box_event ?hg (N := 2) ?hd (cs := #[.float .f64 b_a0_0, .float .f64 b_a0_1]) (t := 39) ?hr ?_; (case hd => rfl); (case hg => rfl); (case hr => exact hr_); intro W6 hg w3 hbox hb; have g9 := mk_ (hbox); have L9 := gb_ hg HB; replace HB := bp_ HB hb; have W7 := L9; clear hb hbox hg) | ((with_reducible refine gd_ 3 rfl ?_); refine box_event ?hg (N := 3) ?hd (cs := #[.float .f64 b_a1_0, .float .f64 b_a1_1]) (t := 39) ?hr ?_; (case hd => rfl); (case hg => rfl); (case hr => exact hr_); intro W8 hg w4 hbox hb; have j3 := mk_ (hbox); have M0 := gb_ hg HB; replace HB := bp_ HB hb; have W9 := M0; have l3 := nb_ hg g9; replace g9 := bl_ g9 hb; have q3 := ns_ l3; clear hb hbox hg) | ((with_reducible refine gd_ 4 rfl ?_); refine box_event ?hg (N := 4) ?hd (cs := #[.float .f64 0, .float .f64 0]) (t := 39) ?hr ?_; (case hd => rfl); (case hg => rfl); (case hr => exact hr_); intro M1 hg w5 hbox hb; have p0 := mk_ (hbox); have M2 := gb_ hg HB; replace HB := bp_ HB hb; have M3 := M2; have l4 := nb_ hg g9; replace g9 := bl_ g9 hb; have q4 := ns_ l4; have l5 := nb_ hg j3; replace j3 := bl_ j3 hb; have q5 := ns_ l5; clear hb hbox hg; have q6 := l3.out; have q7 := q3.out; have y8 := l4.out; have y9 := q4.out; have j4 := bc0_ g9; have j5 := bc1_ g9; have j6 := bf_ g9 0; have j7 := bf_ g9 1; have A0 := l5.out; have A1 := q5.out; have g4 := bc0_ j3; have g5 := bc1_ j3; have g6 := bf_ j3 0; have g7 := bf_ j3 1) | ((with_reducible refine gd_ 9 rfl ?_); refine fop_event rfl (N := 9) rfl (op := .sub) (by simp) rfl .f64 b_a0_0 b_a1_0 a0_0 a1_0 rfl rfl hF_a0_0 hF_a1_0 ?_; intro b_ft104 nf_ hF_; replace hF_ := hF_.trans Nft104.out.symm; have hF_ft104 := hF_; clear hF_) | ((with_reducible refine gd_ 14 rfl ?_); refine fop_event rfl (N := 14) rfl (op := .sub) (by simp) rfl .f64 b_a0_1 b_a1_1 a0_1 a1_1 rfl rfl hF_a0_1 hF_a1_1 ?_; intro b_ft105 nf_ hF_; replace hF_ := hF_.trans Nft105.out.symm; have hF_ft105 := hF_; clear hF_; have h6 := bc0_ p0; have h7 := bc1_ p0; have h8 := bf_ p0 0; have h9 := bf_ p0 1))
 refine bodyPost_ret (results_cell_row rfl _ _ M1 39 #[.float .f64 b_ft104, .float .f64 b_ft105] (0, 0) _ rfl (by (with_reducible repeat (first | refine blk_drewN ?_ _ | refine blk_drew ?_ | refine blk_alloc ?_ _)); refine blk_put (cs := #[.float .f64 b_ft104, .float .f64 0]) ?_ 1 _ rfl; (with_reducible repeat (first | refine blk_drewN ?_ _ | refine blk_drew ?_ | refine blk_alloc ?_ _)); refine blk_put (cs := #[.float .f64 0, .float .f64 0]) ?_ 0 _ rfl; (with_reducible repeat (first | refine blk_drewN ?_ _ | refine blk_drew ?_ | refine blk_alloc ?_ _)); exact p0.out) Try.underlying39 rfl (by kernel_rfl)) rfl ?_
 exact ⟨b_ft104, b_ft105, re_, hF_ft104, hF_ft105, by repeat (first | (with_reducible first | exact HB.out | apply below_alloc | apply pw_below_drewN | apply below_drew1 | refine below_set ?_ M3.out) | exact HB.out)⟩

/-! ### spec_CxTimes: function 59 -/
def spec_CxTimes.f (a0_0 : Fl) (a0_1 : Fl) (a1_0 : Fl) (a1_1 : Fl) : Option (Fl × Fl) := some ((fop .sub .f64 (fop .mul .f64 a0_0 a1_0) (fop .mul .f64 a0_1 a1_1)), (fop .add .f64 (fop .mul .f64 a0_0 a1_1) (fop .mul .f64 a0_1 a1_0)))
set_option maxHeartbeats 8000000 in
set_option maxRecDepth 100000 in
theorem spec_CxTimes.calls (b_a0_0 : Nat) (a0_0 : Fl) (b_a0_1 : Nat) (a0_1 : Fl) (b_a1_0 : Nat) (a1_0 : Fl) (b_a1_1 : Nat) (a1_1 : Fl) (r1 : Fl) (r2 : Fl) (w : World) (hF_a0_0 : cn .f64 b_a0_0 = a0_0) (hF_a0_1 : cn .f64 b_a0_1 = a0_1) (hF_a1_0 : cn .f64 b_a1_0 = a1_0) (hF_a1_1 : cn .f64 b_a1_1 = a1_1) (h : spec_CxTimes.f a0_0 a0_1 a1_0 a1_1 = some (r1, r2)) :
  Calls Try.prog 59 #[.agg #[.float .f64 b_a0_0, .float .f64 b_a0_1], .agg #[.float .f64 b_a1_0, .float .f64 b_a1_1]] w fun e w' => ∃ b_r1 b_r2 : Nat, e = .returned (.agg #[.float .f64 b_r1, .float .f64 b_r2]) ∧ cn .f64 b_r1 = r1 ∧ cn .f64 b_r2 = r2 ∧ Below w.heap.size w w' := by
 have o9 := Try.underlying39
 have HB := mk_ (Below.refl w.heap.size w)
 have H : (some ((fop .sub .f64 (fop .mul .f64 a0_0 a1_0) (fop .mul .f64 a0_1 a1_1)), (fop .add .f64 (fop .mul .f64 a0_0 a1_1) (fop .mul .f64 a0_1 a1_0)))) = some (r1, r2) := h
 clear h
 obtain ⟨ft109, hft109⟩ : ∃ y_ : Fl, y_ = (fop .mul .f64 a0_0 a1_0) := ⟨_, rfl⟩
 replace H : (some ((fop .sub .f64 ft109 (fop .mul .f64 a0_1 a1_1)), (fop .add .f64 (fop .mul .f64 a0_0 a1_1) (fop .mul .f64 a0_1 a1_0)))) = some (r1, r2) := by first | (rw [hft109]; with_reducible exact H) | (have H2_ := (Option.bind_some _ _).symm.trans H; rw [hft109]; with_reducible exact H2_) | (have H2_ := (Option.bind_some _ _).symm.trans H; with_reducible exact H2_) | with_reducible exact H | (rw [hft109]; exact H) | exact H
 have Nft109 := mk_ hft109; clear hft109
 obtain ⟨ft110, hft110⟩ : ∃ y_ : Fl, y_ = (fop .mul .f64 a0_1 a1_1) := ⟨_, rfl⟩
 replace H : (some ((fop .sub .f64 ft109 ft110), (fop .add .f64 (fop .mul .f64 a0_0 a1_1) (fop .mul .f64 a0_1 a1_0)))) = some (r1, r2) := by first | (rw [hft110]; with_reducible exact H) | (have H2_ := (Option.bind_some _ _).symm.trans H; rw [hft110]; with_reducible exact H2_) | (have H2_ := (Option.bind_some _ _).symm.trans H; with_reducible exact H2_) | with_reducible exact H | (rw [hft110]; exact H) | exact H
 have Nft110 := mk_ hft110; clear hft110
 obtain ⟨ft111, hft111⟩ : ∃ y_ : Fl, y_ = (fop .mul .f64 a0_0 a1_1) := ⟨_, rfl⟩
 replace H : (some ((fop .sub .f64 ft109 ft110), (fop .add .f64 ft111 (fop .mul .f64 a0_1 a1_0)))) = some (r1, r2) := by first | (rw [hft111]; with_reducible exact H) | (have H2_ := (Option.bind_some _ _).symm.trans H; rw [hft111]; with_reducible exact H2_) | (have H2_ := (Option.bind_some _ _).symm.trans H; with_reducible exact H2_) | with_reducible exact H | (rw [hft111]; exact H) | exact H
 have Nft111 := mk_ hft111; clear hft111
 obtain ⟨ft112, hft112⟩ : ∃ y_ : Fl, y_ = (fop .mul .f64 a0_1 a1_0) := ⟨_, rfl⟩
 replace H : (some ((fop .sub .f64 ft109 ft110), (fop .add .f64 ft111 ft112))) = some (r1, r2) := by first | (rw [hft112]; with_reducible exact H) | (have H2_ := (Option.bind_some _ _).symm.trans H; rw [hft112]; with_reducible exact H2_) | (have H2_ := (Option.bind_some _ _).symm.trans H; with_reducible exact H2_) | with_reducible exact H | (rw [hft112]; exact H) | exact H
 have Nft112 := mk_ hft112; clear hft112
 obtain ⟨ft113, hft113⟩ : ∃ y_ : Fl, y_ = (fop .sub .f64 ft109 ft110) := ⟨_, rfl⟩
 replace H : (some (ft113, (fop .add .f64 ft111 ft112))) = some (r1, r2) := by first | (rw [hft113]; with_reducible exact H) | (have H2_ := (Option.bind_some _ _).symm.trans H; rw [hft113]; with_reducible exact H2_) | (have H2_ := (Option.bind_some _ _).symm.trans H; with_reducible exact H2_) | with_reducible exact H | (rw [hft113]; exact H) | exact H
 have Nft113 := mk_ hft113; clear hft113
 obtain ⟨ft114, hft114⟩ : ∃ y_ : Fl, y_ = (fop .add .f64 ft111 ft112) := ⟨_, rfl⟩
 replace H : (some (ft113, ft114)) = some (r1, r2) := by first | (rw [hft114]; with_reducible exact H) | (have H2_ := (Option.bind_some _ _).symm.trans H; rw [hft114]; with_reducible exact H2_) | (have H2_ := (Option.bind_some _ _).symm.trans H; with_reducible exact H2_) | with_reducible exact H | (rw [hft114]; exact H) | exact H
 have Nft114 := mk_ hft114; clear hft114
 simp only [Option.some.injEq, Prod.mk.injEq] at H
 obtain ⟨rfl, rfl⟩ := H
 go_enter Try.func59, Try.ntmps59
 go_wp2_with (first | ((with_reducible refine gd_ 2 rfl ?_); refine box_event ?hg (N := 2) ?hd (cs := #[.float .f64 b_a0_0, .float .f64 b_a0_1]) (t := 39) ?hr ?_; (case hd => rfl); (case hg => rfl); (case hr => exact hr_); intro X0 hg w3 hbox hb; have h0 := mk_ (hbox); have M4 := gb_ hg HB; replace HB := bp_ HB hb; have X1 := M4; clear hb hbox hg) | ((with_reducible refine gd_ 3 rfl ?_); refine box_event ?hg (N := 3) ?hd (cs := #[.float .f64 b_a1_0, .float .f64 b_a1_1]) (t := 39) ?hr ?_; (case hd => rfl); (case hg => rfl); (case hr => exact hr_); intro X2 hg w4 hbox hb; have j8 := mk_ (hbox); have M5 := gb_ hg HB; replace HB := bp_ HB hb; have X3 := M5; have l6 := nb_ hg h0; replace h0 := bl_ h0 hb; have q8 := ns_ l6; clear hb hbox hg) | ((with_reducible refine gd_ 4 rfl ?_); refine box_event ?hg (N := 4) ?hd (cs := #[.float .f64 0, .float .f64 0]) (t := 39) ?hr ?_; (case hd => rfl); (case hg => rfl); (case hr => exact hr_); intro M6 hg w5 hbox hb; have p1 := mk_ (hbox); have M7 := gb_ hg HB; replace HB := bp_ HB hb; have M8 := M7; have l7 := nb_ hg h0; replace h0 := bl_ h0 hb; have q9 := ns_ l7; have l8 := nb_ hg j8; replace j8 := bl_ j8 hb; have s0 := ns_ l8; clear hb hbox hg; have q6 := l6.out; have q7 := q8.out; have y8 := l7.out; have y9 := q9.out; have j4 := bc0_ h0; have j5 := bc1_ h0; have j6 := bf_ h0 0; have j7 := bf_ h0 1; have A0 := l8.out; have A1 := s0.out; have g4 := bc0_ j8; have g5 := bc1_ j8; have g6 := bf_ j8 0; have g7 := bf_ j8 1) | ((with_reducible refine gd_ 13 rfl ?_); refine fop_event rfl (N := 13) rfl (op := .mul) (by simp) rfl .f64 b_a0_0 b_a1_0 a0_0 a1_0 rfl rfl hF_a0_0 hF_a1_0 ?_; intro b_ft109 nf_ hF_; replace hF_ := hF_.trans Nft109.out.symm; have hF_ft109 := hF_; clear hF_) | ((with_reducible refine gd_ 18 rfl ?_); refine fop_event rfl (N := 18) rfl (op := .mul) (by simp) rfl .f64 b_a0_1 b_a1_1 a0_1 a1_1 rfl rfl hF_a0_1 hF_a1_1 ?_; intro b_ft110 nf_ hF_; replace hF_ := hF_.trans Nft110.out.symm; have hF_ft110 := hF_; clear hF_) | ((with_reducible refine gd_ 23 rfl ?_); refine fop_event rfl (N := 23) rfl (op := .mul) (by simp) rfl .f64 b_a0_0 b_a1_1 a0_0 a1_1 rfl rfl hF_a0_0 hF_a1_1 ?_; intro b_ft111 nf_ hF_; replace hF_ := hF_.trans Nft111.out.symm; have hF_ft111 := hF_; clear hF_) | ((with_reducible refine gd_ 28 rfl ?_); refine fop_event rfl (N := 28) rfl (op := .mul) (by simp) rfl .f64 b_a0_1 b_a1_0 a0_1 a1_0 rfl rfl hF_a0_1 hF_a1_0 ?_; intro b_ft112 nf_ hF_; replace hF_ := hF_.trans Nft112.out.symm; have hF_ft112 := hF_; clear hF_) | ((with_reducible refine gd_ 31 rfl ?_); refine fop_event rfl (N := 31) rfl (op := .sub) (by simp) rfl .f64 b_ft109 b_ft110 ft109 ft110 rfl rfl hF_ft109 hF_ft110 ?_; intro b_ft113 nf_ hF_; replace hF_ := hF_.trans Nft113.out.symm; have hF_ft113 := hF_; clear hF_) | ((with_reducible refine gd_ 34 rfl ?_); refine fop_event rfl (N := 34) rfl (op := .add) (by simp) rfl .f64 b_ft111 b_ft112 ft111 ft112 rfl rfl hF_ft111 hF_ft112 ?_; intro b_ft114 nf_ hF_; replace hF_ := hF_.trans Nft114.out.symm; have hF_ft114 := hF_; clear hF_; have h6 := bc0_ p1; have h7 := bc1_ p1; have h8 := bf_ p1 0; have h9 := bf_ p1 1))
 refine bodyPost_ret (results_cell_row rfl _ _ M6 39 #[.float .f64 b_ft113, .float .f64 b_ft114] (0, 0) _ rfl (by (with_reducible repeat (first | refine blk_drewN ?_ _ | refine blk_drew ?_ | refine blk_alloc ?_ _)); refine blk_put (cs := #[.float .f64 b_ft113, .float .f64 0]) ?_ 1 _ rfl; (with_reducible repeat (first | refine blk_drewN ?_ _ | refine blk_drew ?_ | refine blk_alloc ?_ _)); refine blk_put (cs := #[.float .f64 0, .float .f64 0]) ?_ 0 _ rfl; (with_reducible repeat (first | refine blk_drewN ?_ _ | refine blk_drew ?_ | refine blk_alloc ?_ _)); exact p1.out) Try.underlying39 rfl (by kernel_rfl)) rfl ?_
 exact ⟨b_ft113, b_ft114, re_, hF_ft113, hF_ft114, by repeat (first | (with_reducible first | exact HB.out | apply below_alloc | apply pw_below_drewN | apply below_drew1 | refine below_set ?_ M8.out) | exact HB.out)⟩

/-! ### spec_CxAdd: function 60 -/
def spec_CxAdd.f (a0_0 : Fl) (a0_1 : Fl) (a1_0 : Fl) (a1_1 : Fl) : Option (Fl × Fl) := some ((fop .add .f64 a0_0 a1_0), (fop .add .f64 a0_1 a1_1))
set_option maxHeartbeats 8000000 in
set_option maxRecDepth 100000 in
theorem spec_CxAdd.calls (b_a0_0 : Nat) (a0_0 : Fl) (b_a0_1 : Nat) (a0_1 : Fl) (b_a1_0 : Nat) (a1_0 : Fl) (b_a1_1 : Nat) (a1_1 : Fl) (r1 : Fl) (r2 : Fl) (w : World) (hF_a0_0 : cn .f64 b_a0_0 = a0_0) (hF_a0_1 : cn .f64 b_a0_1 = a0_1) (hF_a1_0 : cn .f64 b_a1_0 = a1_0) (hF_a1_1 : cn .f64 b_a1_1 = a1_1) (h : spec_CxAdd.f a0_0 a0_1 a1_0 a1_1 = some (r1, r2)) :
  Calls Try.prog 60 #[.agg #[.float .f64 b_a0_0, .float .f64 b_a0_1], .agg #[.float .f64 b_a1_0, .float .f64 b_a1_1]] w fun e w' => ∃ b_r1 b_r2 : Nat, e = .returned (.agg #[.float .f64 b_r1, .float .f64 b_r2]) ∧ cn .f64 b_r1 = r1 ∧ cn .f64 b_r2 = r2 ∧ Below w.heap.size w w' := by
 have o9 := Try.underlying39
 have HB := mk_ (Below.refl w.heap.size w)
 have H : (some ((fop .add .f64 a0_0 a1_0), (fop .add .f64 a0_1 a1_1))) = some (r1, r2) := h
 clear h
 obtain ⟨ft118, hft118⟩ : ∃ y_ : Fl, y_ = (fop .add .f64 a0_0 a1_0) := ⟨_, rfl⟩
 replace H : (some (ft118, (fop .add .f64 a0_1 a1_1))) = some (r1, r2) := by first | (rw [hft118]; with_reducible exact H) | (have H2_ := (Option.bind_some _ _).symm.trans H; rw [hft118]; with_reducible exact H2_) | (have H2_ := (Option.bind_some _ _).symm.trans H; with_reducible exact H2_) | with_reducible exact H | (rw [hft118]; exact H) | exact H
 have Nft118 := mk_ hft118; clear hft118
 obtain ⟨ft119, hft119⟩ : ∃ y_ : Fl, y_ = (fop .add .f64 a0_1 a1_1) := ⟨_, rfl⟩
 replace H : (some (ft118, ft119)) = some (r1, r2) := by first | (rw [hft119]; with_reducible exact H) | (have H2_ := (Option.bind_some _ _).symm.trans H; rw [hft119]; with_reducible exact H2_) | (have H2_ := (Option.bind_some _ _).symm.trans H; with_reducible exact H2_) | with_reducible exact H | (rw [hft119]; exact H) | exact H
 have Nft119 := mk_ hft119; clear hft119
 simp only [Option.some.injEq, Prod.mk.injEq] at H
 obtain ⟨rfl, rfl⟩ := H
 go_enter Try.func60, Try.ntmps60
 go_wp2_with (first | ((with_reducible refine gd_ 2 rfl ?_); refine box_event ?hg (N := 2) ?hd (cs := #[.float .f64 b_a0_0, .float .f64 b_a0_1]) (t := 39) ?hr ?_; (case hd => rfl); (case hg => rfl); (case hr => exact hr_); intro X4 hg w3 hbox hb; have h1 := mk_ (hbox); have M9 := gb_ hg HB; replace HB := bp_ HB hb; have X5 := M9; clear hb hbox hg) | ((with_reducible refine gd_ 3 rfl ?_); refine box_event ?hg (N := 3) ?hd (cs := #[.float .f64 b_a1_0, .float .f64 b_a1_1]) (t := 39) ?hr ?_; (case hd => rfl); (case hg => rfl); (case hr => exact hr_); intro X6 hg w4 hbox hb; have j9 := mk_ (hbox); have N0 := gb_ hg HB; replace HB := bp_ HB hb; have X7 := N0; have l9 := nb_ hg h1; replace h1 := bl_ h1 hb; have s1 := ns_ l9; clear hb hbox hg) | ((with_reducible refine gd_ 4 rfl ?_); refine box_event ?hg (N := 4) ?hd (cs := #[.float .f64 0, .float .f64 0]) (t := 39) ?hr ?_; (case hd => rfl); (case hg => rfl); (case hr => exact hr_); intro N1 hg w5 hbox hb; have p2 := mk_ (hbox); have N2 := gb_ hg HB; replace HB := bp_ HB hb; have N3 := N2; have m0 := nb_ hg h1; replace h1 := bl_ h1 hb; have s2 := ns_ m0; have m1 := nb_ hg j9; replace j9 := bl_ j9 hb; have s3 := ns_ m1; clear hb hbox hg; have q6 := l9.out; have q7 := s1.out; have y8 := m0.out; have y9 := s2.out; have j4 := bc0_ h1; have j5 := bc1_ h1; have j6 := bf_ h1 0; have j7 := bf_ h1 1; have A0 := m1.out; have A1 := s3.out; have g4 := bc0_ j9; have g5 := bc1_ j9; have g6 := bf_ j9 0; have g7 := bf_ j9 1) | ((with_reducible refine gd_ 9 rfl ?_); refine fop_event rfl (N := 9) rfl (op := .add) (by simp) rfl .f64 b_a0_0 b_a1_0 a0_0 a1_0 rfl rfl hF_a0_0 hF_a1_0 ?_; intro b_ft118 nf_ hF_; replace hF_ := hF_.trans Nft118.out.symm; have hF_ft118 := hF_; clear hF_) | ((with_reducible refine gd_ 14 rfl ?_); refine fop_event rfl (N := 14) rfl (op := .add) (by simp) rfl .f64 b_a0_1 b_a1_1 a0_1 a1_1 rfl rfl hF_a0_1 hF_a1_1 ?_; intro b_ft119 nf_ hF_; replace hF_ := hF_.trans Nft119.out.symm; have hF_ft119 := hF_; clear hF_; have h6 := bc0_ p2; have h7 := bc1_ p2; have h8 := bf_ p2 0; have h9 := bf_ p2 1))
 refine bodyPost_ret (results_cell_row rfl _ _ N1 39 #[.float .f64 b_ft118, .float .f64 b_ft119] (0, 0) _ rfl (by (with_reducible repeat (first | refine blk_drewN ?_ _ | refine blk_drew ?_ | refine blk_alloc ?_ _)); refine blk_put (cs := #[.float .f64 b_ft118, .float .f64 0]) ?_ 1 _ rfl; (with_reducible repeat (first | refine blk_drewN ?_ _ | refine blk_drew ?_ | refine blk_alloc ?_ _)); refine blk_put (cs := #[.float .f64 0, .float .f64 0]) ?_ 0 _ rfl; (with_reducible repeat (first | refine blk_drewN ?_ _ | refine blk_drew ?_ | refine blk_alloc ?_ _)); exact p2.out) Try.underlying39 rfl (by kernel_rfl)) rfl ?_
 exact ⟨b_ft118, b_ft119, re_, hF_ft118, hF_ft119, by repeat (first | (with_reducible first | exact HB.out | apply below_alloc | apply pw_below_drewN | apply below_drew1 | refine below_set ?_ N3.out) | exact HB.out)⟩

/-! ### spec_Flutter: function 19 -/
def spec_Flutter.f (a0_0 : Fl) (a0_1 : Fl) (a1_0 : Fl) (a1_1 : Fl) (a2_0 : Fl) (a2_1 : Fl) (a3_0 : Fl) (a3_1 : Fl) : Option (Fl × Fl × Fl × Fl) := (spec_CxTimes.f a0_0 a0_1 a3_0 a3_1).bind fun p3 => ((spec_CxTimes.f a1_0 a1_1 a2_0 a2_1).bind fun j0 => ((spec_CxLess.f p3.1 p3.2 j0.1 j0.2).bind fun g2 => ((spec_CxAdd.f a0_0 a0_1 a3_0 a3_1).bind fun g0 => (some (g2.1, g2.2, g0.1, g0.2)))))
def spec_Flutter.T1 : Bool × List (List Nat × List Nat) := (true, [([], []), ([], []), ([0, 1], [0, 1]), ([], []), ([], []), ([3, 4, 2], [3, 4]), ([2, 5, 5], [2, 5]), ([], []), ([], []), ([7, 8, 6], [7, 8]), ([6, 9, 0, 1, 2, 3, 4, 5, 6], [6]), ([9, 10, 0, 1, 2, 3, 4, 5, 6, 7, 8, 9, 10], [9])])
def spec_Flutter.B1 : List Nat := [0, 0, 3, 0, 0, 31, 63, 0, 0, 511, 1023, 2047]
theorem spec_Flutter.tab1 : rtab .any (opsOf Try.f19 1) = spec_Flutter.T1 := by kernel_rfl
theorem spec_Flutter.bits1 : waitsOk spec_Flutter.T1.2 spec_Flutter.B1 = true := by kernel_rfl
set_option maxHeartbeats 8000000 in
set_option maxRecDepth 100000 in
theorem spec_Flutter.calls (b_a0_0 : Nat) (a0_0 : Fl) (b_a0_1 : Nat) (a0_1 : Fl) (b_a1_0 : Nat) (a1_0 : Fl) (b_a1_1 : Nat) (a1_1 : Fl) (b_a2_0 : Nat) (a2_0 : Fl) (b_a2_1 : Nat) (a2_1 : Fl) (b_a3_0 : Nat) (a3_0 : Fl) (b_a3_1 : Nat) (a3_1 : Fl) (r1 : Fl) (r2 : Fl) (r3 : Fl) (r4 : Fl) (w : World) (hF_a0_0 : cn .f64 b_a0_0 = a0_0) (hF_a0_1 : cn .f64 b_a0_1 = a0_1) (hF_a1_0 : cn .f64 b_a1_0 = a1_0) (hF_a1_1 : cn .f64 b_a1_1 = a1_1) (hF_a2_0 : cn .f64 b_a2_0 = a2_0) (hF_a2_1 : cn .f64 b_a2_1 = a2_1) (hF_a3_0 : cn .f64 b_a3_0 = a3_0) (hF_a3_1 : cn .f64 b_a3_1 = a3_1) (h : spec_Flutter.f a0_0 a0_1 a1_0 a1_1 a2_0 a2_1 a3_0 a3_1 = some (r1, r2, r3, r4)) :
  Calls Try.prog 19 #[.agg #[.float .f64 b_a0_0, .float .f64 b_a0_1], .agg #[.float .f64 b_a1_0, .float .f64 b_a1_1], .agg #[.float .f64 b_a2_0, .float .f64 b_a2_1], .agg #[.float .f64 b_a3_0, .float .f64 b_a3_1]] w fun e w' => ∃ b_r1 b_r2 b_r3 b_r4 : Nat, e = .returned (.tuple #[.agg #[.float .f64 b_r1, .float .f64 b_r2], .agg #[.float .f64 b_r3, .float .f64 b_r4]]) ∧ cn .f64 b_r1 = r1 ∧ cn .f64 b_r2 = r2 ∧ cn .f64 b_r3 = r3 ∧ cn .f64 b_r4 = r4 ∧ Below w.heap.size w w' := by
 have o9 := Try.underlying39
 have HB := mk_ (Below.refl w.heap.size w)
 have H : ((spec_CxTimes.f a0_0 a0_1 a3_0 a3_1).bind fun p3 => ((spec_CxTimes.f a1_0 a1_1 a2_0 a2_1).bind fun j0 => ((spec_CxLess.f p3.1 p3.2 j0.1 j0.2).bind fun g2 => ((spec_CxAdd.f a0_0 a0_1 a3_0 a3_1).bind fun g0 => (some (g2.1, g2.2, g0.1, g0.2)))))) = some (r1, r2, r3, r4) := h
 clear h; replace H := Option.bind_eq_some_iff.mp H; obtain ⟨⟨B9, C0⟩, N4, H⟩ := H
 replace H : ((spec_CxTimes.f a1_0 a1_1 a2_0 a2_1).bind fun j0 => ((spec_CxLess.f B9 C0 j0.1 j0.2).bind fun g2 => ((spec_CxAdd.f a0_0 a0_1 a3_0 a3_1).bind fun g0 => (some (g2.1, g2.2, g0.1, g0.2))))) = some (r1, r2, r3, r4) := H
 have A5 := mk_ N4; clear N4; replace H := Option.bind_eq_some_iff.mp H; obtain ⟨⟨I8, I9⟩, N5, H⟩ := H
 replace H : ((spec_CxLess.f B9 C0 I8 I9).bind fun g2 => ((spec_CxAdd.f a0_0 a0_1 a3_0 a3_1).bind fun g0 => (some (g2.1, g2.2, g0.1, g0.2)))) = some (r1, r2, r3, r4) := H
 have A6 := mk_ N5; clear N5; replace H := Option.bind_eq_some_iff.mp H; obtain ⟨⟨J0, J1⟩, N6, H⟩ := H
 replace H : ((spec_CxAdd.f a0_0 a0_1 a3_0 a3_1).bind fun g0 => (some (J0, J1, g0.1, g0.2))) = some (r1, r2, r3, r4) := H
 have A7 := mk_ N6; clear N6; replace H := Option.bind_eq_some_iff.mp H; obtain ⟨⟨N7, N8⟩, N9, H⟩ := H
 replace H : (some (J0, J1, N7, N8)) = some (r1, r2, r3, r4) := H
 have A8 := mk_ N9; clear N9
 simp only [Option.some.injEq, Prod.mk.injEq] at H
 obtain ⟨rfl, rfl, rfl, rfl⟩ := H
 go_enter Try.func19, Try.ntmps19
 try go_wp2_with (first | ((with_reducible refine gd_ 4 rfl ?_); refine box_event ?hg (N := 4) ?hd (cs := #[.float .f64 b_a0_0, .float .f64 b_a0_1]) (t := 39) ?hr ?_; (case hd => rfl); (case hg => rfl); (case hr => exact hr_); intro I0 hg w9 hbox hb; have a0 := mk_ (hbox); have O0 := gb_ hg HB; replace HB := bp_ HB hb; have X8 := O0; clear hb hbox hg) | ((with_reducible refine gd_ 5 rfl ?_); refine box_event ?hg (N := 5) ?hd (cs := #[.float .f64 b_a1_0, .float .f64 b_a1_1]) (t := 39) ?hr ?_; (case hd => rfl); (case hg => rfl); (case hr => exact hr_); intro I1 hg w10 hbox hb; have a2 := mk_ (hbox); have O1 := gb_ hg HB; replace HB := bp_ HB hb; have X9 := O1; have s4 := nb_ hg a0; replace a0 := bl_ a0 hb; have J7 := ns_ s4; clear hb hbox hg) | ((with_reducible refine gd_ 6 rfl ?_); refine box_event ?hg (N := 6) ?hd (cs := #[.float .f64 b_a2_0, .float .f64 b_a2_1]) (t := 39) ?hr ?_; (case hd => rfl); (case hg => rfl); (case hr => exact hr_); intro I2 hg w11 hbox hb; have a4 := mk_ (hbox); have O2 := gb_ hg HB; replace HB := bp_ HB hb; have Y0 := O2; have s5 := nb_ hg a0; replace a0 := bl_ a0 hb; have J8 := ns_ s5; have s6 := nb_ hg a2; replace a2 := bl_ a2 hb; have J9 := ns_ s6; clear hb hbox hg) | ((with_reducible refine gd_ 7 rfl ?_); refine box_event ?hg (N := 7) ?hd (cs := #[.float .f64 b_a3_0, .float .f64 b_a3_1]) (t := 39) ?hr ?_; (case hd => rfl); (case hg => rfl); (case hr => exact hr_); intro I3 hg w12 hbox hb; have a6 := mk_ (hbox); have O3 := gb_ hg HB; replace HB := bp_ HB hb; have Y1 := O3; have s7 := nb_ hg a0; replace a0 := bl_ a0 hb; have L0 := ns_ s7; have s8 := nb_ hg a2; replace a2 := bl_ a2 hb; have L1 := ns_ s8; have s9 := nb_ hg a4; replace a4 := bl_ a4 hb; have L2 := ns_ s9; clear hb hbox hg) | ((with_reducible refine gd_ 8 rfl ?_); refine box_event ?hg (N := 8) ?hd (cs := #[.float .f64 0, .float .f64 0]) (t := 39) ?hr ?_; (case hd => rfl); (case hg => rfl); (case hr => exact hr_); intro a8 hg w13 hbox hb; have a9 := mk_ (hbox); have O4 := gb_ hg HB; replace HB := bp_ HB hb; have O5 := O4; have b4 := nb_ hg a0; replace a0 := bl_ a0 hb; have m2 := ns_ b4; have b5 := nb_ hg a2; replace a2 := bl_ a2 hb; have m3 := ns_ b5; have b6 := nb_ hg a4; replace a4 := bl_ a4 hb; have m4 := ns_ b6; have b7 := nb_ hg a6; replace a6 := bl_ a6 hb; have m5 := ns_ b7; clear hb hbox hg) | ((with_reducible refine gd_ 9 rfl ?_); refine box_event ?hg (N := 9) ?hd (cs := #[.float .f64 0, .float .f64 0]) (t := 39) ?hr ?_; (case hd => rfl); (case hg => rfl); (case hr => exact hr_); intro b0 hg V3 hbox hb; have d2 := mk_ (hbox); have O6 := gb_ hg HB; replace HB := bp_ HB hb; have O7 := O6; have b8 := nb_ hg a0; replace a0 := bl_ a0 hb; have m6 := ns_ b8; have b9 := nb_ hg a2; replace a2 := bl_ a2 hb; have m7 := ns_ b9; have c0 := nb_ hg a4; replace a4 := bl_ a4 hb; have m8 := ns_ c0; have c1 := nb_ hg a6; replace a6 := bl_ a6 hb; have m9 := ns_ c1; have c2 := nb_ hg a9; replace a9 := bl_ a9 hb; have d4 := ns_ c2; clear hb hbox hg))
 replace a0 := dB_ a0; replace a2 := dB_ a2; replace a4 := dB_ a4; replace a6 := dB_ a6; replace a9 := dB_ a9; replace d2 := dB_ d2; replace HB := dH_ HB
 refine start_ (n := 12) (S := fun w' => w'.cell? ⟨I0, 0, none⟩ = some (.float .f64 b_a0_0) ∧ w'.cell? ⟨I0, 1, none⟩ = some (.float .f64 b_a0_1) ∧ w'.cell? ⟨I3, 0, none⟩ = some (.float .f64 b_a3_0) ∧ w'.cell? ⟨I3, 1, none⟩ = some (.float .f64 b_a3_1) ∧ w'.cell? ⟨I1, 0, none⟩ = some (.float .f64 b_a1_0) ∧ w'.cell? ⟨I1, 1, none⟩ = some (.float .f64 b_a1_1) ∧ w'.cell? ⟨I2, 0, none⟩ = some (.float .f64 b_a2_0) ∧ w'.cell? ⟨I2, 1, none⟩ = some (.float .f64 b_a2_1)) (ds := []) (bs_ 12 0) (by kernel_rfl) rfl (by kernel_rfl) ⟨bc0_ a0, bc1_ a0, bc0_ a6, bc1_ a6, bc0_ a2, bc1_ a2, bc0_ a4, bc1_ a4⟩ (fun hHeld => ?_); refine with_tabW spec_Flutter.tab1 spec_Flutter.bits1 (fun HT_ HW_ => ?_)
 generalize V3.drew = w15 at a0 a2 a4 a6 a9 d2 HB hHeld ⊢
 refine tk_ HT_ HW_ 0 10 (bs_ 12 1) hHeld ?_; refine tk_ HT_ HW_ 1 11 (bs_ 12 3) hHeld ?_; refine tk_ HT_ HW_ 3 13 (bs_ 12 11) hHeld ?_; refine tk_ HT_ HW_ 4 14 (bs_ 12 27) hHeld ?_; refine tk_ HT_ HW_ 7 17 (bs_ 12 155) hHeld ?_; refine tk_ HT_ HW_ 8 18 (bs_ 12 411) hHeld ?_
 refine one_ (i := 2) (N := some 12) (bs_ 12 415) rfl rfl (one_of HT_.out (by kernel_rfl)) (by decide) (fun K hK => ?_)
 refine gs_ Try.func59 #[.agg #[.float .f64 b_a0_0, .float .f64 b_a0_1], .agg #[.float .f64 b_a3_0, .float .f64 b_a3_1]] ?_
 with_reducible refine (spec_CxTimes.calls b_a0_0 a0_0 b_a0_1 a0_1 b_a3_0 a3_0 b_a3_1 a3_1 B9 C0 _ ?d6 ?d7 ?d8 ?d9 A5.out).mono ?_
 (case d6 => exact hF_a0_0)
 (case d7 => exact hF_a0_1)
 (case d8 => exact hF_a3_0)
 (case d9 => exact hF_a3_1)
 rintro e w16 ⟨A2, A3, rfl, C1, C2, hb⟩
 refine ⟨_, rfl, ?_⟩
 replace a0 := bk_ a0 hb; replace a2 := bk_ a2 hb; replace a4 := bk_ a4 hb; replace a6 := bk_ a6 hb; replace a9 := bk_ a9 hb; replace d2 := bk_ d2 hb; replace HB := hk_ HB hb
 (try clear hb); (try clear J2); (try clear hk); (try clear hi)
 refine hK.out _ _ ⟨bc0_ a0, bc1_ a0, bc0_ a6, bc1_ a6, bc0_ a2, bc1_ a2, bc0_ a4, bc1_ a4⟩ (fun hHeld => ?_)
 clear hK K; refine nm_ 12 ?_
 refine one_ (i := 5) (N := some 15) (bs_ 12 447) rfl rfl (one_of HT_.out (by kernel_rfl)) (by decide) (fun K hK => ?_)
 refine gs_ Try.func59 #[.agg #[.float .f64 b_a1_0, .float .f64 b_a1_1], .agg #[.float .f64 b_a2_0, .float .f64 b_a2_1]] ?_
 with_reducible refine (spec_CxTimes.calls b_a1_0 a1_0 b_a1_1 a1_1 b_a2_0 a2_0 b_a2_1 a2_1 I8 I9 _ ?d6 ?d7 ?d8 ?d9 A6.out).mono ?_
 (case d6 => exact hF_a1_0)
 (case d7 => exact hF_a1_1)
 (case d8 => exact hF_a2_0)
 (case d9 => exact hF_a2_1)
 rintro e w17 ⟨A4, A9, rfl, C3, C4, hb⟩
 refine ⟨_, rfl, ?_⟩
 replace a0 := bk_ a0 hb; replace a2 := bk_ a2 hb; replace a4 := bk_ a4 hb; replace a6 := bk_ a6 hb; replace a9 := bk_ a9 hb; replace d2 := bk_ d2 hb; replace HB := hk_ HB hb
 (try clear hb); (try clear J2); (try clear hk); (try clear hi)
 refine hK.out _ _ ⟨bc0_ a0, bc1_ a0, bc0_ a6, bc1_ a6, bc0_ a2, bc1_ a2, bc0_ a4, bc1_ a4⟩ (fun hHeld => ?_)
 clear hK K; refine nm_ 15 ?_
 refine one_ (i := 6) (N := some 16) (bs_ 12 511) rfl rfl (one_of HT_.out (by kernel_rfl)) (by decide) (fun K hK => ?_)
 refine gs_ Try.func58 #[.agg #[.float .f64 A2, .float .f64 A3], .agg #[.float .f64 A4, .float .f64 A9]] ?_
 with_reducible refine (spec_CxLess.calls A2 B9 A3 C0 A4 I8 A9 I9 J0 J1 _ ?d6 ?d7 ?d8 ?d9 A7.out).mono ?_
 (case d6 => exact C1)
 (case d7 => exact C2)
 (case d8 => exact C3)
 (case d9 => exact C4)
 rintro e w18 ⟨p8, B0, rfl, C5, C6, hb⟩
 refine ⟨_, rfl, ?_⟩
 replace a0 := bk_ a0 hb; replace a2 := bk_ a2 hb; replace a4 := bk_ a4 hb; replace a6 := bk_ a6 hb; replace a9 := bk_ a9 hb; replace d2 := bk_ d2 hb; replace HB := hk_ HB hb
 (try clear hb); (try clear J2); (try clear hk); (try clear hi)
 refine hK.out _ _ ⟨bc0_ a0, bc1_ a0, bc0_ a6, bc1_ a6, bc0_ a2, bc1_ a2, bc0_ a4, bc1_ a4⟩ (fun hHeld => ?_)
 clear hK K; refine nm_ 16 ?_
 refine one_ (i := 9) (N := some 19) (bs_ 12 1023) rfl rfl (one_of HT_.out (by kernel_rfl)) (by decide) (fun K hK => ?_)
 refine gs_ Try.func60 #[.agg #[.float .f64 b_a0_0, .float .f64 b_a0_1], .agg #[.float .f64 b_a3_0, .float .f64 b_a3_1]] ?_
 with_reducible refine (spec_CxAdd.calls b_a0_0 a0_0 b_a0_1 a0_1 b_a3_0 a3_0 b_a3_1 a3_1 N7 N8 _ ?d6 ?d7 ?d8 ?d9 A8.out).mono ?_
 (case d6 => exact hF_a0_0)
 (case d7 => exact hF_a0_1)
 (case d8 => exact hF_a3_0)
 (case d9 => exact hF_a3_1)
 rintro e C7 ⟨p9, B2, rfl, C8, C9, hb⟩
 refine ⟨_, rfl, ?_⟩
 replace a0 := bk_ a0 hb; replace a2 := bk_ a2 hb; replace a4 := bk_ a4 hb; replace a6 := bk_ a6 hb; replace a9 := bk_ a9 hb; replace d2 := bk_ d2 hb; replace HB := hk_ HB hb
 (try clear hb); (try clear J2); (try clear hk); (try clear hi)
 refine hK.out _ _ ⟨bc0_ a0, bc1_ a0, bc0_ a6, bc1_ a6, bc0_ a2, bc1_ a2, bc0_ a4, bc1_ a4⟩ (fun hHeld => ?_)
 clear hK K; refine nm_ 19 ?_
 refine one_ (i := 10) (N := none) (bs_ 12 2047) rfl rfl (one_of HT_.out (by kernel_rfl)) (by decide) (fun K hK => ?_)
 have V4 : C7.cell? ⟨a8, 0, none⟩ = some (.float .f64 0) := bc0_ a9
 have O8 := blk_frozen a9.out 0
 have D0 := b4.out; have D1 := b5.out
 have D2 := b6.out; have D3 := b7.out
 have D4 := d4.out; have D5 := m2.out
 have D6 := m3.out; have D7 := m4.out
 have D8 := m5.out; have D9 := c2.out
 have V5 : C7.cell? ⟨a8, 1, none⟩ = some (.float .f64 0) := bc1_ a9
 have O9 := blk_frozen a9.out 1
 have E0 := b4.out; have E1 := b5.out
 have E2 := b6.out; have E3 := b7.out
 have E4 := d4.out; have E5 := m2.out
 have E6 := m3.out; have E7 := m4.out
 have E8 := m5.out; have E9 := c2.out
 refine skip_ (w1 := ?_) (by rfl) rfl ?_ ?_
 rotate_left
 ·go_simp
  rfl
 refine hK.out _ _ ⟨((cell_far (p := ⟨a8, _, none⟩) b4.out _).trans (((cell_far (p := ⟨a8, _, none⟩) b4.out _).trans (hHeld.1)))), ((cell_far (p := ⟨a8, _, none⟩) b4.out _).trans (((cell_far (p := ⟨a8, _, none⟩) b4.out _).trans (hHeld.2.1)))), ((cell_far (p := ⟨a8, _, none⟩) b7.out _).trans (((cell_far (p := ⟨a8, _, none⟩) b7.out _).trans (hHeld.2.2.1)))), ((cell_far (p := ⟨a8, _, none⟩) b7.out _).trans (((cell_far (p := ⟨a8, _, none⟩) b7.out _).trans (hHeld.2.2.2.1)))), ((cell_far (p := ⟨a8, _, none⟩) b5.out _).trans (((cell_far (p := ⟨a8, _, none⟩) b5.out _).trans (hHeld.2.2.2.2.1)))), ((cell_far (p := ⟨a8, _, none⟩) b5.out _).trans (((cell_far (p := ⟨a8, _, none⟩) b5.out _).trans (hHeld.2.2.2.2.2.1)))), ((cell_far (p := ⟨a8, _, none⟩) b6.out _).trans (((cell_far (p := ⟨a8, _, none⟩) b6.out _).trans (hHeld.2.2.2.2.2.2.1)))), ((cell_far (p := ⟨a8, _, none⟩) b6.out _).trans (((cell_far (p := ⟨a8, _, none⟩) b6.out _).trans (hHeld.2.2.2.2.2.2.2))))⟩ (fun hHeld => ?_)
 clear hK K
 refine one_ (i := 11) (N := none) (bs_ 12 4095) rfl rfl (one_of HT_.out (by kernel_rfl)) (by decide) (fun K hK => ?_)
 have V6 : C7.cell? ⟨b0, 0, none⟩ = some (.float .f64 0) := bc0_ d2
 have P0 := blk_frozen d2.out 0
 have F0 := b8.out; have F1 := b9.out
 have F2 := c0.out; have F3 := c1.out
 have F4 := c2.out; have F5 := m6.out
 have F6 := m7.out; have F7 := m8.out
 have F8 := m9.out; have F9 := d4.out
 have V7 : C7.cell? ⟨b0, 1, none⟩ = some (.float .f64 0) := bc1_ d2
 have P1 := blk_frozen d2.out 1
 have G0 := b8.out; have G1 := b9.out
 have G2 := c0.out; have G3 := c1.out
 have G4 := c2.out; have G5 := m6.out
 have G6 := m7.out; have G7 := m8.out
 have G8 := m9.out; have G9 := d4.out
 refine skip_ (w1 := ?_) (by rfl) rfl ?_ ?_
 rotate_left
 ·go_simp
  rfl
 refine hK.out _ _ ⟨((cell_far (p := ⟨b0, _, none⟩) b8.out _).trans (((cell_far (p := ⟨b0, _, none⟩) b8.out _).trans (hHeld.1)))), ((cell_far (p := ⟨b0, _, none⟩) b8.out _).trans (((cell_far (p := ⟨b0, _, none⟩) b8.out _).trans (hHeld.2.1)))), ((cell_far (p := ⟨b0, _, none⟩) c1.out _).trans (((cell_far (p := ⟨b0, _, none⟩) c1.out _).trans (hHeld.2.2.1)))), ((cell_far (p := ⟨b0, _, none⟩) c1.out _).trans (((cell_far (p := ⟨b0, _, none⟩) c1.out _).trans (hHeld.2.2.2.1)))), ((cell_far (p := ⟨b0, _, none⟩) b9.out _).trans (((cell_far (p := ⟨b0, _, none⟩) b9.out _).trans (hHeld.2.2.2.2.1)))), ((cell_far (p := ⟨b0, _, none⟩) b9.out _).trans (((cell_far (p := ⟨b0, _, none⟩) b9.out _).trans (hHeld.2.2.2.2.2.1)))), ((cell_far (p := ⟨b0, _, none⟩) c0.out _).trans (((cell_far (p := ⟨b0, _, none⟩) c0.out _).trans (hHeld.2.2.2.2.2.2.1)))), ((cell_far (p := ⟨b0, _, none⟩) c0.out _).trans (((cell_far (p := ⟨b0, _, none⟩) c0.out _).trans (hHeld.2.2.2.2.2.2.2))))⟩ (fun hHeld => ?_)
 clear hK K
 refine done_ (done_of HT_.out (by kernel_rfl)) ?_
 try go_wp2
 refine bodyPost_ret (results_cc rfl _ _ a8 b0 39 39 #[.float .f64 p8, .float .f64 B0] #[.float .f64 p9, .float .f64 B2] (0, 0) (0, 0) _ _ rfl (by (with_reducible repeat (first | refine blk_drewN ?_ _ | refine blk_drew ?_ | refine blk_alloc ?_ _)); refine blk_far ?_ c2.out _; (with_reducible repeat (first | refine blk_drewN ?_ _ | refine blk_drew ?_ | refine blk_alloc ?_ _)); refine blk_far ?_ c2.out _; (with_reducible repeat (first | refine blk_drewN ?_ _ | refine blk_drew ?_ | refine blk_alloc ?_ _)); refine blk_put (cs := #[.float .f64 p8, .float .f64 0]) ?_ 1 _ rfl; (with_reducible repeat (first | refine blk_drewN ?_ _ | refine blk_drew ?_ | refine blk_alloc ?_ _)); refine blk_put (cs := #[.float .f64 0, .float .f64 0]) ?_ 0 _ rfl; (with_reducible repeat (first | refine blk_drewN ?_ _ | refine blk_drew ?_ | refine blk_alloc ?_ _)); exact a9.out) Try.underlying39 rfl (by kernel_rfl) rfl (by (with_reducible repeat (first | refine blk_drewN ?_ _ | refine blk_drew ?_ | refine blk_alloc ?_ _)); refine blk_put (cs := #[.float .f64 p9, .float .f64 0]) ?_ 1 _ rfl; (with_reducible repeat (first | refine blk_drewN ?_ _ | refine blk_drew ?_ | refine blk_alloc ?_ _)); refine blk_put (cs := #[.float .f64 0, .float .f64 0]) ?_ 0 _ rfl; (with_reducible repeat (first | refine blk_drewN ?_ _ | refine blk_drew ?_ | refine blk_alloc ?_ _)); refine blk_far ?_ d4.out _; (with_reducible repeat (first | refine blk_drewN ?_ _ | refine blk_drew ?_ | refine blk_alloc ?_ _)); refine blk_far ?_ d4.out _; (with_reducible repeat (first | refine blk_drewN ?_ _ | refine blk_drew ?_ | refine blk_alloc ?_ _)); exact d2.out) Try.underlying39 rfl (by kernel_rfl)) rfl ?_
 exact ⟨p8, B0, p9, B2, re_, C5, C6, C8, C9, by repeat (first | (with_reducible first | exact HB.out | apply below_alloc | apply pw_below_drewN | apply below_drew1 | refine below_set ?_ O5.out | refine below_set ?_ O7.out) | exact HB.out)⟩

/-! ### laws_toCx: function 20 -/
def laws_toCx.f (a0_0 : Fl) (a0_1 : Fl) : Option (Fl × Fl) := some (a0_0, a0_1)
set_option maxHeartbeats 8000000 in
set_option maxRecDepth 100000 in
theorem laws_toCx.calls (b_a0_0 : Nat) (a0_0 : Fl) (b_a0_1 : Nat) (a0_1 : Fl) (r1 : Fl) (r2 : Fl) (w : World) (hF_a0_0 : cn .f64 b_a0_0 = a0_0) (hF_a0_1 : cn .f64 b_a0_1 = a0_1) (h : laws_toCx.f a0_0 a0_1 = some (r1, r2)) :
  Calls Try.prog 20 #[.agg #[.float .f64 b_a0_0, .float .f64 b_a0_1]] w fun e w' => ∃ b_r1 b_r2 : Nat, e = .returned (.agg #[.float .f64 b_r1, .float .f64 b_r2]) ∧ cn .f64 b_r1 = r1 ∧ cn .f64 b_r2 = r2 ∧ Below w.heap.size w w' := by
 have aa1 := Try.underlying38
 have o9 := Try.underlying39
 have HB := mk_ (Below.refl w.heap.size w)
 have H : (some (a0_0, a0_1)) = some (r1, r2) := h
 clear h
 simp only [Option.some.injEq, Prod.mk.injEq] at H
 obtain ⟨rfl, rfl⟩ := H
 go_enter Try.func20, Try.ntmps20
 go_wp2_with (first | ((with_reducible refine gd_ 1 rfl ?_); refine box_event ?hg (N := 1) ?hd (cs := #[.float .f64 b_a0_0, .float .f64 b_a0_1]) (t := 38) ?hr ?_; (case hd => rfl); (case hg => rfl); (case hr => exact hr_); intro Y2 hg w2 hbox hb; have h2 := mk_ (hbox); have P2 := gb_ hg HB; replace HB := bp_ HB hb; have Y3 := P2; clear hb hbox hg) | ((with_reducible refine gd_ 2 rfl ?_); refine box_event ?hg (N := 2) ?hd (cs := #[.float .f64 0, .float .f64 0]) (t := 39) ?hr ?_; (case hd => rfl); (case hg => rfl); (case hr => exact hr_); intro P3 hg w3 hbox hb; have j1 := mk_ (hbox); have P4 := gb_ hg HB; replace HB := bp_ HB hb; have P5 := P4; have n0 := nb_ hg h2; replace h2 := bl_ h2 hb; have t0 := ns_ n0; clear hb hbox hg) | ((with_reducible refine gd_ 3 rfl ?_); refine box_event ?hg (N := 3) ?hd (cs := #[.float .f64 0, .float .f64 0]) (t := 39) ?hr ?_; (case hd => rfl); (case hg => rfl); (case hr => exact hr_); intro Y4 hg w4 hbox hb; have q2 := mk_ (hbox); have P6 := gb_ hg HB; replace HB := bp_ HB hb; have P7 := P6; have n1 := nb_ hg h2; replace h2 := bl_ h2 hb; have t1 := ns_ n1; have g8 := nb_ hg j1; replace j1 := bl_ j1 hb; have t2 := ns_ g8; clear hb hbox hg; have aa2 := n0.out; have aa3 := t0.out; have q6 := n1.out; have q7 := t1.out; have V8 := bc0_ h2; have V9 := bc1_ h2; have W0 := bf_ h2 0; have W1 := bf_ h2 1; have aa4 := t2.out; have aa5 := g8.out; have W2 := bc0_ q2; have W3 := bc1_ q2; have W4 := bf_ q2 0; have W5 := bf_ q2 1; have g4 := bc0_ j1; have g5 := bc1_ j1; have g6 := bf_ j1 0; have g7 := bf_ j1 1))
 refine bodyPost_ret (results_cell_row rfl _ _ P3 39 #[.float .f64 b_a0_0, .float .f64 b_a0_1] (0, 0) _ rfl (by (with_reducible repeat (first | refine blk_drewN ?_ _ | refine blk_drew ?_ | refine blk_alloc ?_ _)); refine blk_put (cs := #[.float .f64 b_a0_0, .float .f64 0]) ?_ 1 _ rfl; (with_reducible repeat (first | refine blk_drewN ?_ _ | refine blk_drew ?_ | refine blk_alloc ?_ _)); refine blk_put (cs := #[.float .f64 0, .float .f64 0]) ?_ 0 _ rfl; (with_reducible repeat (first | refine blk_drewN ?_ _ | refine blk_drew ?_ | refine blk_alloc ?_ _)); refine blk_far ?_ g8.out _; (with_reducible repeat (first | refine blk_drewN ?_ _ | refine blk_drew ?_ | refine blk_alloc ?_ _)); refine blk_far ?_ g8.out _; (with_reducible repeat (first | refine blk_drewN ?_ _ | refine blk_drew ?_ | refine blk_alloc ?_ _)); exact j1.out) Try.underlying39 rfl (by kernel_rfl)) rfl ?_
 exact ⟨b_a0_0, b_a0_1, re_, hF_a0_0, hF_a0_1, by repeat (first | (with_reducible first | exact HB.out | apply below_alloc | apply pw_below_drewN | apply below_drew1 | refine below_set ?_ P5.out | refine below_set ?_ P7.out) | exact HB.out)⟩

/-! ### impl_CxLess: function 61 -/
def impl_CxLess.f (a0_0 : Fl) (a0_1 : Fl) (a1_0 : Fl) (a1_1 : Fl) : Option (Fl × Fl) := some ((fop .sub .f64 a0_0 a1_0), (fop .sub .f64 a0_1 a1_1))
set_option maxHeartbeats 8000000 in
set_option maxRecDepth 100000 in
theorem impl_CxLess.calls (b_a0_0 : Nat) (a0_0 : Fl) (b_a0_1 : Nat) (a0_1 : Fl) (b_a1_0 : Nat) (a1_0 : Fl) (b_a1_1 : Nat) (a1_1 : Fl) (r1 : Fl) (r2 : Fl) (w : World) (hF_a0_0 : cn .f64 b_a0_0 = a0_0) (hF_a0_1 : cn .f64 b_a0_1 = a0_1) (hF_a1_0 : cn .f64 b_a1_0 = a1_0) (hF_a1_1 : cn .f64 b_a1_1 = a1_1) (h : impl_CxLess.f a0_0 a0_1 a1_0 a1_1 = some (r1, r2)) :
  Calls Try.prog 61 #[.agg #[.float .f64 b_a0_0, .float .f64 b_a0_1], .agg #[.float .f64 b_a1_0, .float .f64 b_a1_1]] w fun e w' => ∃ b_r1 b_r2 : Nat, e = .returned (.agg #[.float .f64 b_r1, .float .f64 b_r2]) ∧ cn .f64 b_r1 = r1 ∧ cn .f64 b_r2 = r2 ∧ Below w.heap.size w w' := by
 have o9 := Try.underlying39
 have HB := mk_ (Below.refl w.heap.size w)
 have H : (some ((fop .sub .f64 a0_0 a1_0), (fop .sub .f64 a0_1 a1_1))) = some (r1, r2) := h
 clear h
 obtain ⟨ft140, hft140⟩ : ∃ y_ : Fl, y_ = (fop .sub .f64 a0_0 a1_0) := ⟨_, rfl⟩
 replace H : (some (ft140, (fop .sub .f64 a0_1 a1_1))) = some (r1, r2) := by first | (rw [hft140]; with_reducible exact H) | (have H2_ := (Option.bind_some _ _).symm.trans H; rw [hft140]; with_reducible exact H2_) | (have H2_ := (Option.bind_some _ _).symm.trans H; with_reducible exact H2_) | with_reducible exact H | (rw [hft140]; exact H) | exact H
 have Nft140 := mk_ hft140; clear hft140
 obtain ⟨ft141, hft141⟩ : ∃ y_ : Fl, y_ = (fop .sub .f64 a0_1 a1_1) := ⟨_, rfl⟩
 replace H : (some (ft140, ft141)) = some (r1, r2) := by first | (rw [hft141]; with_reducible exact H) | (have H2_ := (Option.bind_some _ _).symm.trans H; rw [hft141]; with_reducible exact H2_) | (have H2_ := (Option.bind_some _ _).symm.trans H; with_reducible exact H2_) | with_reducible exact H | (rw [hft141]; exact H) | exact H
 have Nft141 := mk_ hft141; clear hft141
 simp only [Option.some.injEq, Prod.mk.injEq] at H
 obtain ⟨rfl, rfl⟩ := H
 go_enter Try.func61, Try.ntmps61
 go_wp2_with (first | ((with_reducible refine gd_ 2 rfl ?_); refine box_event ?hg (N := 2) ?hd (cs := #[.float .f64 b_a0_0, .float .f64 b_a0_1]) (t := 39) ?hr ?_; (case hd => rfl); (case hg => rfl); (case hr => exact hr_); intro Y5 hg w3 hbox hb; have h3 := mk_ (hbox); have P8 := gb_ hg HB; replace HB := bp_ HB hb; have Y6 := P8; clear hb hbox hg) | ((with_reducible refine gd_ 3 rfl ?_); refine box_event ?hg (N := 3) ?hd (cs := #[.float .f64 b_a1_0, .float .f64 b_a1_1]) (t := 39) ?hr ?_; (case hd => rfl); (case hg => rfl); (case hr => exact hr_); intro Y7 hg w4 hbox hb; have l0 := mk_ (hbox); have P9 := gb_ hg HB; replace HB := bp_ HB hb; have Y8 := P9; have n2 := nb_ hg h3; replace h3 := bl_ h3 hb; have t3 := ns_ n2; clear hb hbox hg) | ((with_reducible refine gd_ 4 rfl ?_); refine box_event ?hg (N := 4) ?hd (cs := #[.float .f64 0, .float .f64 0]) (t := 39) ?hr ?_; (case hd => rfl); (case hg => rfl); (case hr => exact hr_); intro Q0 hg w5 hbox hb; have p4 := mk_ (hbox); have Q1 := gb_ hg HB; replace HB := bp_ HB hb; have Q2 := Q1; have n3 := nb_ hg h3; replace h3 := bl_ h3 hb; have t4 := ns_ n3; have n4 := nb_ hg l0; replace l0 := bl_ l0 hb; have t5 := ns_ n4; clear hb hbox hg; have q6 := n2.out; have q7 := t3.out; have y8 := n3.out; have y9 := t4.out; have j4 := bc0_ h3; have j5 := bc1_ h3; have j6 := bf_ h3 0; have j7 := bf_ h3 1; have A0 := n4.out; have A1 := t5.out; have g4 := bc0_ l0; have g5 := bc1_ l0; have g6 := bf_ l0 0; have g7 := bf_ l0 1) | ((with_reducible refine gd_ 9 rfl ?_); refine fop_event rfl (N := 9) rfl (op := .sub) (by simp) rfl .f64 b_a0_0 b_a1_0 a0_0 a1_0 rfl rfl hF_a0_0 hF_a1_0 ?_; intro b_ft140 nf_ hF_; replace hF_ := hF_.trans Nft140.out.symm; have hF_ft140 := hF_; clear hF_) | ((with_reducible refine gd_ 14 rfl ?_); refine fop_event rfl (N := 14) rfl (op := .sub) (by simp) rfl .f64 b_a0_1 b_a1_1 a0_1 a1_1 rfl rfl hF_a0_1 hF_a1_1 ?_; intro b_ft141 nf_ hF_; replace hF_ := hF_.trans Nft141.out.symm; have hF_ft141 := hF_; clear hF_; have h6 := bc0_ p4; have h7 := bc1_ p4; have h8 := bf_ p4 0; have h9 := bf_ p4 1))
 refine bodyPost_ret (results_cell_row rfl _ _ Q0 39 #[.float .f64 b_ft140, .float .f64 b_ft141] (0, 0) _ rfl (by (with_reducible repeat (first | refine blk_drewN ?_ _ | refine blk_drew ?_ | refine blk_alloc ?_ _)); refine blk_put (cs := #[.float .f64 b_ft140, .float .f64 0]) ?_ 1 _ rfl; (with_reducible repeat (first | refine blk_drewN ?_ _ | refine blk_drew ?_ | refine blk_alloc ?_ _)); refine blk_put (cs := #[.float .f64 0, .float .f64 0]) ?_ 0 _ rfl; (with_reducible repeat (first | refine blk_drewN ?_ _ | refine blk_drew ?_ | refine blk_alloc ?_ _)); exact p4.out) Try.underlying39 rfl (by kernel_rfl)) rfl ?_
 exact ⟨b_ft140, b_ft141, re_, hF_ft140, hF_ft141, by repeat (first | (with_reducible first | exact HB.out | apply below_alloc | apply pw_below_drewN | apply below_drew1 | refine below_set ?_ Q2.out) | exact HB.out)⟩

/-! ### impl_CxTimes: function 62 -/
def impl_CxTimes.f (a0_0 : Fl) (a0_1 : Fl) (a1_0 : Fl) (a1_1 : Fl) : Option (Fl × Fl) := some ((fop .sub .f64 (fop .mul .f64 a0_0 a1_0) (fop .mul .f64 a0_1 a1_1)), (fop .add .f64 (fop .mul .f64 a0_0 a1_1) (fop .mul .f64 a0_1 a1_0)))
set_option maxHeartbeats 8000000 in
set_option maxRecDepth 100000 in
theorem impl_CxTimes.calls (b_a0_0 : Nat) (a0_0 : Fl) (b_a0_1 : Nat) (a0_1 : Fl) (b_a1_0 : Nat) (a1_0 : Fl) (b_a1_1 : Nat) (a1_1 : Fl) (r1 : Fl) (r2 : Fl) (w : World) (hF_a0_0 : cn .f64 b_a0_0 = a0_0) (hF_a0_1 : cn .f64 b_a0_1 = a0_1) (hF_a1_0 : cn .f64 b_a1_0 = a1_0) (hF_a1_1 : cn .f64 b_a1_1 = a1_1) (h : impl_CxTimes.f a0_0 a0_1 a1_0 a1_1 = some (r1, r2)) :
  Calls Try.prog 62 #[.agg #[.float .f64 b_a0_0, .float .f64 b_a0_1], .agg #[.float .f64 b_a1_0, .float .f64 b_a1_1]] w fun e w' => ∃ b_r1 b_r2 : Nat, e = .returned (.agg #[.float .f64 b_r1, .float .f64 b_r2]) ∧ cn .f64 b_r1 = r1 ∧ cn .f64 b_r2 = r2 ∧ Below w.heap.size w w' := by
 have o9 := Try.underlying39
 have HB := mk_ (Below.refl w.heap.size w)
 have H : (some ((fop .sub .f64 (fop .mul .f64 a0_0 a1_0) (fop .mul .f64 a0_1 a1_1)), (fop .add .f64 (fop .mul .f64 a0_0 a1_1) (fop .mul .f64 a0_1 a1_0)))) = some (r1, r2) := h
 clear h
 obtain ⟨ft145, hft145⟩ : ∃ y_ : Fl, y_ = (fop .mul .f64 a0_0 a1_0) := ⟨_, rfl⟩
 replace H : (some ((fop .sub .f64 ft145 (fop .mul .f64 a0_1 a1_1)), (fop .add .f64 (fop .mul .f64 a0_0 a1_1) (fop .mul .f64 a0_1 a1_0)))) = some (r1, r2) := by first | (rw [hft145]; with_reducible exact H) | (have H2_ := (Option.bind_some _ _).symm.trans H; rw [hft145]; with_reducible exact H2_) | (have H2_ := (Option.bind_some _ _).symm.trans H; with_reducible exact H2_) | with_reducible exact H | (rw [hft145]; exact H) | exact H
 have Nft145 := mk_ hft145; clear hft145
 obtain ⟨ft146, hft146⟩ : ∃ y_ : Fl, y_ = (fop .mul .f64 a0_1 a1_1) := ⟨_, rfl⟩
 replace H : (some ((fop .sub .f64 ft145 ft146), (fop .add .f64 (fop .mul .f64 a0_0 a1_1) (fop .mul .f64 a0_1 a1_0)))) = some (r1, r2) := by first | (rw [hft146]; with_reducible exact H) | (have H2_ := (Option.bind_some _ _).symm.trans H; rw [hft146]; with_reducible exact H2_) | (have H2_ := (Option.bind_some _ _).symm.trans H; with_reducible exact H2_) | with_reducible exact H | (rw [hft146]; exact H) | exact H
 have Nft146 := mk_ hft146; clear hft146
 obtain ⟨ft147, hft147⟩ : ∃ y_ : Fl, y_ = (fop .sub .f64 ft145 ft146) := ⟨_, rfl⟩
 replace H : (some (ft147, (fop .add .f64 (fop .mul .f64 a0_0 a1_1) (fop .mul .f64 a0_1 a1_0)))) = some (r1, r2) := by first | (rw [hft147]; with_reducible exact H) | (have H2_ := (Option.bind_some _ _).symm.trans H; rw [hft147]; with_reducible exact H2_) | (have H2_ := (Option.bind_some _ _).symm.trans H; with_reducible exact H2_) | with_reducible exact H | (rw [hft147]; exact H) | exact H
 have Nft147 := mk_ hft147; clear hft147
 obtain ⟨ft148, hft148⟩ : ∃ y_ : Fl, y_ = (fop .mul .f64 a0_0 a1_1) := ⟨_, rfl⟩
 replace H : (some (ft147, (fop .add .f64 ft148 (fop .mul .f64 a0_1 a1_0)))) = some (r1, r2) := by first | (rw [hft148]; with_reducible exact H) | (have H2_ := (Option.bind_some _ _).symm.trans H; rw [hft148]; with_reducible exact H2_) | (have H2_ := (Option.bind_some _ _).symm.trans H; with_reducible exact H2_) | with_reducible exact H | (rw [hft148]; exact H) | exact H
 have Nft148 := mk_ hft148; clear hft148
 obtain ⟨ft149, hft149⟩ : ∃ y_ : Fl, y_ = (fop .mul .f64 a0_1 a1_0) := ⟨_, rfl⟩
 replace H : (some (ft147, (fop .add .f64 ft148 ft149))) = some (r1, r2) := by first | (rw [hft149]; with_reducible exact H) | (have H2_ := (Option.bind_some _ _).symm.trans H; rw [hft149]; with_reducible exact H2_) | (have H2_ := (Option.bind_some _ _).symm.trans H; with_reducible exact H2_) | with_reducible exact H | (rw [hft149]; exact H) | exact H
 have Nft149 := mk_ hft149; clear hft149
 obtain ⟨ft150, hft150⟩ : ∃ y_ : Fl, y_ = (fop .add .f64 ft148 ft149) := ⟨_, rfl⟩
 replace H : (some (ft147, ft150)) = some (r1, r2) := by first | (rw [hft150]; with_reducible exact H) | (have H2_ := (Option.bind_some _ _).symm.trans H; rw [hft150]; with_reducible exact H2_) | (have H2_ := (Option.bind_some _ _).symm.trans H; with_reducible exact H2_) | with_reducible exact H | (rw [hft150]; exact H) | exact H
 have Nft150 := mk_ hft150; clear hft150
 simp only [Option.some.injEq, Prod.mk.injEq] at H
 obtain ⟨rfl, rfl⟩ := H
 go_enter Try.func62, Try.ntmps62
 go_wp2_with (first | ((with_reducible refine gd_ 2 rfl ?_); refine box_event ?hg (N := 2) ?hd (cs := #[.float .f64 b_a0_0, .float .f64 b_a0_1]) (t := 39) ?hr ?_; (case hd => rfl); (case hg => rfl); (case hr => exact hr_); intro Y9 hg w3 hbox hb; have h4 := mk_ (hbox); have Q3 := gb_ hg HB; replace HB := bp_ HB hb; have Z0 := Q3; clear hb hbox hg) | ((with_reducible refine gd_ 3 rfl ?_); refine box_event ?hg (N := 3) ?hd (cs := #[.float .f64 b_a1_0, .float .f64 b_a1_1]) (t := 39) ?hr ?_; (case hd => rfl); (case hg => rfl); (case hr => exact hr_); intro Z1 hg w4 hbox hb; have l1 := mk_ (hbox); have Q4 := gb_ hg HB; replace HB := bp_ HB hb; have Z2 := Q4; have n5 := nb_ hg h4; replace h4 := bl_ h4 hb; have t6 := ns_ n5; clear hb hbox hg) | ((with_reducible refine gd_ 4 rfl ?_); refine box_event ?hg (N := 4) ?hd (cs := #[.float .f64 0, .float .f64 0]) (t := 39) ?hr ?_; (case hd => rfl); (case hg => rfl); (case hr => exact hr_); intro Q5 hg w5 hbox hb; have p5 := mk_ (hbox); have Q6 := gb_ hg HB; replace HB := bp_ HB hb; have Q7 := Q6; have n6 := nb_ hg h4; replace h4 := bl_ h4 hb; have t7 := ns_ n6; have n7 := nb_ hg l1; replace l1 := bl_ l1 hb; have t8 := ns_ n7; clear hb hbox hg; have q6 := n5.out; have q7 := t6.out; have y8 := n6.out; have y9 := t7.out; have j4 := bc0_ h4; have j5 := bc1_ h4; have j6 := bf_ h4 0; have j7 := bf_ h4 1; have A0 := n7.out; have A1 := t8.out; have g4 := bc0_ l1; have g5 := bc1_ l1; have g6 := bf_ l1 0; have g7 := bf_ l1 1) | ((with_reducible refine gd_ 9 rfl ?_); refine fop_event rfl (N := 9) rfl (op := .mul) (by simp) rfl .f64 b_a0_0 b_a1_0 a0_0 a1_0 rfl rfl hF_a0_0 hF_a1_0 ?_; intro b_ft145 nf_ hF_; replace hF_ := hF_.trans Nft145.out.symm; have hF_ft145 := hF_; clear hF_) | ((with_reducible refine gd_ 14 rfl ?_); refine fop_event rfl (N := 14) rfl (op := .mul) (by simp) rfl .f64 b_a0_1 b_a1_1 a0_1 a1_1 rfl rfl hF_a0_1 hF_a1_1 ?_; intro b_ft146 nf_ hF_; replace hF_ := hF_.trans Nft146.out.symm; have hF_ft146 := hF_; clear hF_) | ((with_reducible refine gd_ 15 rfl ?_); refine fop_event rfl (N := 15) rfl (op := .sub) (by simp) rfl .f64 b_ft145 b_ft146 ft145 ft146 rfl rfl hF_ft145 hF_ft146 ?_; intro b_ft147 nf_ hF_; replace hF_ := hF_.trans Nft147.out.symm; have hF_ft147 := hF_; clear hF_) | ((with_reducible refine gd_ 20 rfl ?_); refine fop_event rfl (N := 20) rfl (op := .mul) (by simp) rfl .f64 b_a0_0 b_a1_1 a0_0 a1_1 rfl rfl hF_a0_0 hF_a1_1 ?_; intro b_ft148 nf_ hF_; replace hF_ := hF_.trans Nft148.out.symm; have hF_ft148 := hF_; clear hF_) | ((with_reducible refine gd_ 25 rfl ?_); refine fop_event rfl (N := 25) rfl (op := .mul) (by simp) rfl .f64 b_a0_1 b_a1_0 a0_1 a1_0 rfl rfl hF_a0_1 hF_a1_0 ?_; intro b_ft149 nf_ hF_; replace hF_ := hF_.trans Nft149.out.symm; have hF_ft149 := hF_; clear hF_) | ((with_reducible refine gd_ 26 rfl ?_); refine fop_event rfl (N := 26) rfl (op := .add) (by simp) rfl .f64 b_ft148 b_ft149 ft148 ft149 rfl rfl hF_ft148 hF_ft149 ?_; intro b_ft150 nf_ hF_; replace hF_ := hF_.trans Nft150.out.symm; have hF_ft150 := hF_; clear hF_; have h6 := bc0_ p5; have h7 := bc1_ p5; have h8 := bf_ p5 0; have h9 := bf_ p5 1))
 refine bodyPost_ret (results_cell_row rfl _ _ Q5 39 #[.float .f64 b_ft147, .float .f64 b_ft150] (0, 0) _ rfl (by (with_reducible repeat (first | refine blk_drewN ?_ _ | refine blk_drew ?_ | refine blk_alloc ?_ _)); refine blk_put (cs := #[.float .f64 b_ft147, .float .f64 0]) ?_ 1 _ rfl; (with_reducible repeat (first | refine blk_drewN ?_ _ | refine blk_drew ?_ | refine blk_alloc ?_ _)); refine blk_put (cs := #[.float .f64 0, .float .f64 0]) ?_ 0 _ rfl; (with_reducible repeat (first | refine blk_drewN ?_ _ | refine blk_drew ?_ | refine blk_alloc ?_ _)); exact p5.out) Try.underlying39 rfl (by kernel_rfl)) rfl ?_
 exact ⟨b_ft147, b_ft150, re_, hF_ft147, hF_ft150, by repeat (first | (with_reducible first | exact HB.out | apply below_alloc | apply pw_below_drewN | apply below_drew1 | refine below_set ?_ Q7.out) | exact HB.out)⟩

/-! ### impl_CxAdd: function 63 -/
def impl_CxAdd.f (a0_0 : Fl) (a0_1 : Fl) (a1_0 : Fl) (a1_1 : Fl) : Option (Fl × Fl) := some ((fop .add .f64 a0_0 a1_0), (fop .add .f64 a0_1 a1_1))
set_option maxHeartbeats 8000000 in
set_option maxRecDepth 100000 in
theorem impl_CxAdd.calls (b_a0_0 : Nat) (a0_0 : Fl) (b_a0_1 : Nat) (a0_1 : Fl) (b_a1_0 : Nat) (a1_0 : Fl) (b_a1_1 : Nat) (a1_1 : Fl) (r1 : Fl) (r2 : Fl) (w : World) (hF_a0_0 : cn .f64 b_a0_0 = a0_0) (hF_a0_1 : cn .f64 b_a0_1 = a0_1) (hF_a1_0 : cn .f64 b_a1_0 = a1_0) (hF_a1_1 : cn .f64 b_a1_1 = a1_1) (h : impl_CxAdd.f a0_0 a0_1 a1_0 a1_1 = some (r1, r2)) :
  Calls Try.prog 63 #[.agg #[.float .f64 b_a0_0, .float .f64 b_a0_1], .agg #[.float .f64 b_a1_0, .float .f64 b_a1_1]] w fun e w' => ∃ b_r1 b_r2 : Nat, e = .returned (.agg #[.float .f64 b_r1, .float .f64 b_r2]) ∧ cn .f64 b_r1 = r1 ∧ cn .f64 b_r2 = r2 ∧ Below w.heap.size w w' := by
 have o9 := Try.underlying39
 have HB := mk_ (Below.refl w.heap.size w)
 have H : (some ((fop .add .f64 a0_0 a1_0), (fop .add .f64 a0_1 a1_1))) = some (r1, r2) := h
 clear h
 obtain ⟨ft154, hft154⟩ : ∃ y_ : Fl, y_ = (fop .add .f64 a0_0 a1_0) := ⟨_, rfl⟩
 replace H : (some (ft154, (fop .add .f64 a0_1 a1_1))) = some (r1, r2) := by first | (rw [hft154]; with_reducible exact H) | (have H2_ := (Option.bind_some _ _).symm.trans H; rw [hft154]; with_reducible exact H2_) | (have H2_ := (Option.bind_some _ _).symm.trans H; with_reducible exact H2_) | with_reducible exact H | (rw [hft154]; exact H) | exact H
 have Nft154 := mk_ hft154; clear hft154
 obtain ⟨ft155, hft155⟩ : ∃ y_ : Fl, y_ = (fop .add .f64 a0_1 a1_1) := ⟨_, rfl⟩
 replace H : (some (ft154, ft155)) = some (r1, r2) := by first | (rw [hft155]; with_reducible exact H) | (have H2_ := (Option.bind_some _ _).symm.trans H; rw [hft155]; with_reducible exact H2_) | (have H2_ := (Option.bind_some _ _).symm.trans H; with_reducible exact H2_) | with_reducible exact H | (rw [hft155]; exact H) | exact H
 have Nft155 := mk_ hft155; clear hft155
 simp only [Option.some.injEq, Prod.mk.injEq] at H
 obtain ⟨rfl, rfl⟩ := H
 go_enter Try.func63, Try.ntmps63
 go_wp2_with (first | ((with_reducible refine gd_ 2 rfl ?_); refine box_event ?hg (N := 2) ?hd (cs := #[.float .f64 b_a0_0, .float .f64 b_a0_1]) (t := 39) ?hr ?_; (case hd => rfl); (case hg => rfl); (case hr => exact hr_); intro Z3 hg w3 hbox hb; have h5 := mk_ (hbox); have Q8 := gb_ hg HB; replace HB := bp_ HB hb; have Z4 := Q8; clear hb hbox hg) | ((with_reducible refine gd_ 3 rfl ?_); refine box_event ?hg (N := 3) ?hd (cs := #[.float .f64 b_a1_0, .float .f64 b_a1_1]) (t := 39) ?hr ?_; (case hd => rfl); (case hg => rfl); (case hr => exact hr_); intro Z5 hg w4 hbox hb; have l2 := mk_ (hbox); have Q9 := gb_ hg HB; replace HB := bp_ HB hb; have Z6 := Q9; have n8 := nb_ hg h5; replace h5 := bl_ h5 hb; have t9 := ns_ n8; clear hb hbox hg) | ((with_reducible refine gd_ 4 rfl ?_); refine box_event ?hg (N := 4) ?hd (cs := #[.float .f64 0, .float .f64 0]) (t := 39) ?hr ?_; (case hd => rfl); (case hg => rfl); (case hr => exact hr_); intro R0 hg w5 hbox hb; have p6 := mk_ (hbox); have R1 := gb_ hg HB; replace HB := bp_ HB hb; have R2 := R1; have n9 := nb_ hg h5; replace h5 := bl_ h5 hb; have y0 := ns_ n9; have o0 := nb_ hg l2; replace l2 := bl_ l2 hb; have y1 := ns_ o0; clear hb hbox hg; have q6 := n8.out; have q7 := t9.out; have y8 := n9.out; have y9 := y0.out; have j4 := bc0_ h5; have j5 := bc1_ h5; have j6 := bf_ h5 0; have j7 := bf_ h5 1; have A0 := o0.out; have A1 := y1.out; have g4 := bc0_ l2; have g5 := bc1_ l2; have g6 := bf_ l2 0; have g7 := bf_ l2 1) | ((with_reducible refine gd_ 9 rfl ?_); refine fop_event rfl (N := 9) rfl (op := .add) (by simp) rfl .f64 b_a0_0 b_a1_0 a0_0 a1_0 rfl rfl hF_a0_0 hF_a1_0 ?_; intro b_ft154 nf_ hF_; replace hF_ := hF_.trans Nft154.out.symm; have hF_ft154 := hF_; clear hF_) | ((with_reducible refine gd_ 14 rfl ?_); refine fop_event rfl (N := 14) rfl (op := .add) (by simp) rfl .f64 b_a0_1 b_a1_1 a0_1 a1_1 rfl rfl hF_a0_1 hF_a1_1 ?_; intro b_ft155 nf_ hF_; replace hF_ := hF_.trans Nft155.out.symm; have hF_ft155 := hF_; clear hF_; have h6 := bc0_ p6; have h7 := bc1_ p6; have h8 := bf_ p6 0; have h9 := bf_ p6 1))
 refine bodyPost_ret (results_cell_row rfl _ _ R0 39 #[.float .f64 b_ft154, .float .f64 b_ft155] (0, 0) _ rfl (by (with_reducible repeat (first | refine blk_drewN ?_ _ | refine blk_drew ?_ | refine blk_alloc ?_ _)); refine blk_put (cs := #[.float .f64 b_ft154, .float .f64 0]) ?_ 1 _ rfl; (with_reducible repeat (first | refine blk_drewN ?_ _ | refine blk_drew ?_ | refine blk_alloc ?_ _)); refine blk_put (cs := #[.float .f64 0, .float .f64 0]) ?_ 0 _ rfl; (with_reducible repeat (first | refine blk_drewN ?_ _ | refine blk_drew ?_ | refine blk_alloc ?_ _)); exact p6.out) Try.underlying39 rfl (by kernel_rfl)) rfl ?_
 exact ⟨b_ft154, b_ft155, re_, hF_ft154, hF_ft155, by repeat (first | (with_reducible first | exact HB.out | apply below_alloc | apply pw_below_drewN | apply below_drew1 | refine below_set ?_ R2.out) | exact HB.out)⟩

/-! ### impl_Flutter: function 21 -/
def impl_Flutter.f (a0_0 : Fl) (a0_1 : Fl) (a1_0 : Fl) (a1_1 : Fl) (a2_0 : Fl) (a2_1 : Fl) (a3_0 : Fl) (a3_1 : Fl) : Option (Fl × Fl × Fl × Fl) := (impl_CxTimes.f a0_0 a0_1 a3_0 a3_1).bind fun p7 => ((impl_CxTimes.f a1_0 a1_1 a2_0 a2_1).bind fun j2 => ((impl_CxLess.f p7.1 p7.2 j2.1 j2.2).bind fun g3 => ((impl_CxAdd.f a0_0 a0_1 a3_0 a3_1).bind fun g1 => (some (g3.1, g3.2, g1.1, g1.2)))))
def impl_Flutter.T1 : Bool × List (List Nat × List Nat) := (true, [([], []), ([], []), ([0, 1], [0, 1]), ([], []), ([], []), ([3, 4, 2], [3, 4]), ([2, 5, 5], [2, 5]), ([], []), ([], []), ([7, 8, 6], [7, 8]), ([6, 9, 0, 1, 2, 3, 4, 5, 6], [6]), ([9, 10, 0, 1, 2, 3, 4, 5, 6, 7, 8, 9, 10], [9])])
def impl_Flutter.B1 : List Nat := [0, 0, 3, 0, 0, 31, 63, 0, 0, 511, 1023, 2047]
theorem impl_Flutter.tab1 : rtab .any (opsOf Try.f21 1) = impl_Flutter.T1 := by kernel_rfl
theorem impl_Flutter.bits1 : waitsOk impl_Flutter.T1.2 impl_Flutter.B1 = true := by kernel_rfl
set_option maxHeartbeats 8000000 in
set_option maxRecDepth 100000 in
theorem impl_Flutter.calls (b_a0_0 : Nat) (a0_0 : Fl) (b_a0_1 : Nat) (a0_1 : Fl) (b_a1_0 : Nat) (a1_0 : Fl) (b_a1_1 : Nat) (a1_1 : Fl) (b_a2_0 : Nat) (a2_0 : Fl) (b_a2_1 : Nat) (a2_1 : Fl) (b_a3_0 : Nat) (a3_0 : Fl) (b_a3_1 : Nat) (a3_1 : Fl) (r1 : Fl) (r2 : Fl) (r3 : Fl) (r4 : Fl) (w : World) (hF_a0_0 : cn .f64 b_a0_0 = a0_0) (hF_a0_1 : cn .f64 b_a0_1 = a0_1) (hF_a1_0 : cn .f64 b_a1_0 = a1_0) (hF_a1_1 : cn .f64 b_a1_1 = a1_1) (hF_a2_0 : cn .f64 b_a2_0 = a2_0) (hF_a2_1 : cn .f64 b_a2_1 = a2_1) (hF_a3_0 : cn .f64 b_a3_0 = a3_0) (hF_a3_1 : cn .f64 b_a3_1 = a3_1) (h : impl_Flutter.f a0_0 a0_1 a1_0 a1_1 a2_0 a2_1 a3_0 a3_1 = some (r1, r2, r3, r4)) :
  Calls Try.prog 21 #[.agg #[.float .f64 b_a0_0, .float .f64 b_a0_1], .agg #[.float .f64 b_a1_0, .float .f64 b_a1_1], .agg #[.float .f64 b_a2_0, .float .f64 b_a2_1], .agg #[.float .f64 b_a3_0, .float .f64 b_a3_1]] w fun e w' => ∃ b_r1 b_r2 b_r3 b_r4 : Nat, e = .returned (.tuple #[.agg #[.float .f64 b_r1, .float .f64 b_r2], .agg #[.float .f64 b_r3, .float .f64 b_r4]]) ∧ cn .f64 b_r1 = r1 ∧ cn .f64 b_r2 = r2 ∧ cn .f64 b_r3 = r3 ∧ cn .f64 b_r4 = r4 ∧ Below w.heap.size w w' := by
 have o9 := Try.underlying39
 have HB := mk_ (Below.refl w.heap.size w)
 have H : ((impl_CxTimes.f a0_0 a0_1 a3_0 a3_1).bind fun p7 => ((impl_CxTimes.f a1_0 a1_1 a2_0 a2_1).bind fun j2 => ((impl_CxLess.f p7.1 p7.2 j2.1 j2.2).bind fun g3 => ((impl_CxAdd.f a0_0 a0_1 a3_0 a3_1).bind fun g1 => (some (g3.1, g3.2, g1.1, g1.2)))))) = some (r1, r2, r3, r4) := h
 clear h; replace H := Option.bind_eq_some_iff.mp H; obtain ⟨⟨H0, H1⟩, N4, H⟩ := H
 replace H : ((impl_CxTimes.f a1_0 a1_1 a2_0 a2_1).bind fun j2 => ((impl_CxLess.f H0 H1 j2.1 j2.2).bind fun g3 => ((impl_CxAdd.f a0_0 a0_1 a3_0 a3_1).bind fun g1 => (some (g3.1, g3.2, g1.1, g1.2))))) = some (r1, r2, r3, r4) := H
 have A5 := mk_ N4; clear N4; replace H := Option.bind_eq_some_iff.mp H; obtain ⟨⟨J3, J4⟩, N5, H⟩ := H
 replace H : ((impl_CxLess.f H0 H1 J3 J4).bind fun g3 => ((impl_CxAdd.f a0_0 a0_1 a3_0 a3_1).bind fun g1 => (some (g3.1, g3.2, g1.1, g1.2)))) = some (r1, r2, r3, r4) := H
 have A6 := mk_ N5; clear N5; replace H := Option.bind_eq_some_iff.mp H; obtain ⟨⟨J5, J6⟩, N6, H⟩ := H
 replace H : ((impl_CxAdd.f a0_0 a0_1 a3_0 a3_1).bind fun g1 => (some (J5, J6, g1.1, g1.2))) = some (r1, r2, r3, r4) := H
 have A7 := mk_ N6; clear N6; replace H := Option.bind_eq_some_iff.mp H; obtain ⟨⟨R3, R4⟩, N9, H⟩ := H
 replace H : (some (J5, J6, R3, R4)) = some (r1, r2, r3, r4) := H
 have A8 := mk_ N9; clear N9
 simp only [Option.some.injEq, Prod.mk.injEq] at H
 obtain ⟨rfl, rfl, rfl, rfl⟩ := H
 go_enter Try.func21, Try.ntmps21
 try go_wp2_with (first | ((with_reducible refine gd_ 4 rfl ?_); refine box_event ?hg (N := 4) ?hd (cs := #[.float .f64 b_a0_0, .float .f64 b_a0_1]) (t := 39) ?hr ?_; (case hd => rfl); (case hg => rfl); (case hr => exact hr_); intro I4 hg w9 hbox hb; have a1 := mk_ (hbox); have R5 := gb_ hg HB; replace HB := bp_ HB hb; have Z7 := R5; clear hb hbox hg) | ((with_reducible refine gd_ 5 rfl ?_); refine box_event ?hg (N := 5) ?hd (cs := #[.float .f64 b_a1_0, .float .f64 b_a1_1]) (t := 39) ?hr ?_; (case hd => rfl); (case hg => rfl); (case hr => exact hr_); intro I5 hg w10 hbox hb; have a3 := mk_ (hbox); have R6 := gb_ hg HB; replace HB := bp_ HB hb; have Z8 := R6; have y2 := nb_ hg a1; replace a1 := bl_ a1 hb; have L3 := ns_ y2; clear hb hbox hg) | ((with_reducible refine gd_ 6 rfl ?_); refine box_event ?hg (N := 6) ?hd (cs := #[.float .f64 b_a2_0, .float .f64 b_a2_1]) (t := 39) ?hr ?_; (case hd => rfl); (case hg => rfl); (case hr => exact hr_); intro I6 hg w11 hbox hb; have a5 := mk_ (hbox); have R7 := gb_ hg HB; replace HB := bp_ HB hb; have Z9 := R7; have y3 := nb_ hg a1; replace a1 := bl_ a1 hb; have L4 := ns_ y3; have y4 := nb_ hg a3; replace a3 := bl_ a3 hb; have L5 := ns_ y4; clear hb hbox hg) | ((with_reducible refine gd_ 7 rfl ?_); refine box_event ?hg (N := 7) ?hd (cs := #[.float .f64 b_a3_0, .float .f64 b_a3_1]) (t := 39) ?hr ?_; (case hd => rfl); (case hg => rfl); (case hr => exact hr_); intro I7 hg w12 hbox hb; have a7 := mk_ (hbox); have R8 := gb_ hg HB; replace HB := bp_ HB hb; have aa0 := R8; have y5 := nb_ hg a1; replace a1 := bl_ a1 hb; have L6 := ns_ y5; have y6 := nb_ hg a3; replace a3 := bl_ a3 hb; have L7 := ns_ y6; have y7 := nb_ hg a5; replace a5 := bl_ a5 hb; have L8 := ns_ y7; clear hb hbox hg) | ((with_reducible refine gd_ 8 rfl ?_); refine box_event ?hg (N := 8) ?hd (cs := #[.float .f64 0, .float .f64 0]) (t := 39) ?hr ?_; (case hd => rfl); (case hg => rfl); (case hr => exact hr_); intro b1 hg w13 hbox hb; have b2 := mk_ (hbox); have R9 := gb_ hg HB; replace HB := bp_ HB hb; have V0 := R9; have c3 := nb_ hg a1; replace a1 := bl_ a1 hb; have o1 := ns_ c3; have c4 := nb_ hg a3; replace a3 := bl_ a3 hb; have o2 := ns_ c4; have c5 := nb_ hg a5; replace a5 := bl_ a5 hb; have o3 := ns_ c5; have c6 := nb_ hg a7; replace a7 := bl_ a7 hb; have o4 := ns_ c6; clear hb hbox hg) | ((with_reducible refine gd_ 9 rfl ?_); refine box_event ?hg (N := 9) ?hd (cs := #[.float .f64 0, .float .f64 0]) (t := 39) ?hr ?_; (case hd => rfl); (case hg => rfl); (case hr => exact hr_); intro b3 hg V3 hbox hb; have d3 := mk_ (hbox); have V1 := gb_ hg HB; replace HB := bp_ HB hb; have V2 := V1; have c7 := nb_ hg a1; replace a1 := bl_ a1 hb; have o5 := ns_ c7; have c8 := nb_ hg a3; replace a3 := bl_ a3 hb; have o6 := ns_ c8; have c9 := nb_ hg a5; replace a5 := bl_ a5 hb; have o7 := ns_ c9; have d0 := nb_ hg a7; replace a7 := bl_ a7 hb; have o8 := ns_ d0; have d1 := nb_ hg b2; replace b2 := bl_ b2 hb; have d5 := ns_ d1; clear hb hbox hg))
 replace a1 := dB_ a1; replace a3 := dB_ a3; replace a5 := dB_ a5; replace a7 := dB_ a7; replace b2 := dB_ b2; replace d3 := dB_ d3; replace HB := dH_ HB
 refine start_ (n := 12) (S := fun w' => w'.cell? ⟨I4, 0, none⟩ = some (.float .f64 b_a0_0) ∧ w'.cell? ⟨I4, 1, none⟩ = some (.float .f64 b_a0_1) ∧ w'.cell? ⟨I7, 0, none⟩ = some (.float .f64 b_a3_0) ∧ w'.cell? ⟨I7, 1, none⟩ = some (.float .f64 b_a3_1) ∧ w'.cell? ⟨I5, 0, none⟩ = some (.float .f64 b_a1_0) ∧ w'.cell? ⟨I5, 1, none⟩ = some (.float .f64 b_a1_1) ∧ w'.cell? ⟨I6, 0, none⟩ = some (.float .f64 b_a2_0) ∧ w'.cell? ⟨I6, 1, none⟩ = some (.float .f64 b_a2_1)) (ds := []) (bs_ 12 0) (by kernel_rfl) rfl (by kernel_rfl) ⟨bc0_ a1, bc1_ a1, bc0_ a7, bc1_ a7, bc0_ a3, bc1_ a3, bc0_ a5, bc1_ a5⟩ (fun hHeld => ?_); refine with_tabW impl_Flutter.tab1 impl_Flutter.bits1 (fun HT_ HW_ => ?_)
 generalize V3.drew = w15 at a1 a3 a5 a7 b2 d3 HB hHeld ⊢
 refine tk_ HT_ HW_ 0 10 (bs_ 12 1) hHeld ?_; refine tk_ HT_ HW_ 1 11 (bs_ 12 3) hHeld ?_; refine tk_ HT_ HW_ 3 13 (bs_ 12 11) hHeld ?_; refine tk_ HT_ HW_ 4 14 (bs_ 12 27) hHeld ?_; refine tk_ HT_ HW_ 7 17 (bs_ 12 155) hHeld ?_; refine tk_ HT_ HW_ 8 18 (bs_ 12 411) hHeld ?_
 refine one_ (i := 2) (N := some 12) (bs_ 12 415) rfl rfl (one_of HT_.out (by kernel_rfl)) (by decide) (fun K hK => ?_)
 refine gs_ Try.func62 #[.agg #[.float .f64 b_a0_0, .float .f64 b_a0_1], .agg #[.float .f64 b_a3_0, .float .f64 b_a3_1]] ?_
 with_reducible refine (impl_CxTimes.calls b_a0_0 a0_0 b_a0_1 a0_1 b_a3_0 a3_0 b_a3_1 a3_1 H0 H1 _ ?d6 ?d7 ?d8 ?d9 A5.out).mono ?_
 (case d6 => exact hF_a0_0)
 (case d7 => exact hF_a0_1)
 (case d8 => exact hF_a3_0)
 (case d9 => exact hF_a3_1)
 rintro e w16 ⟨B3, B4, rfl, H2, H3, hb⟩
 refine ⟨_, rfl, ?_⟩
 replace a1 := bk_ a1 hb; replace a3 := bk_ a3 hb; replace a5 := bk_ a5 hb; replace a7 := bk_ a7 hb; replace b2 := bk_ b2 hb; replace d3 := bk_ d3 hb; replace HB := hk_ HB hb
 (try clear hb); (try clear J2); (try clear hk); (try clear hi)
 refine hK.out _ _ ⟨bc0_ a1, bc1_ a1, bc0_ a7, bc1_ a7, bc0_ a3, bc1_ a3, bc0_ a5, bc1_ a5⟩ (fun hHeld => ?_)
 clear hK K; refine nm_ 12 ?_
 refine one_ (i := 5) (N := some 15) (bs_ 12 447) rfl rfl (one_of HT_.out (by kernel_rfl)) (by decide) (fun K hK => ?_)
 refine gs_ Try.func62 #[.agg #[.float .f64 b_a1_0, .float .f64 b_a1_1], .agg #[.float .f64 b_a2_0, .float .f64 b_a2_1]] ?_
 with_reducible refine (impl_CxTimes.calls b_a1_0 a1_0 b_a1_1 a1_1 b_a2_0 a2_0 b_a2_1 a2_1 J3 J4 _ ?d6 ?d7 ?d8 ?d9 A6.out).mono ?_
 (case d6 => exact hF_a1_0)
 (case d7 => exact hF_a1_1)
 (case d8 => exact hF_a2_0)
 (case d9 => exact hF_a2_1)
 rintro e w17 ⟨B5, B6, rfl, H4, H5, hb⟩
 refine ⟨_, rfl, ?_⟩
 replace a1 := bk_ a1 hb; replace a3 := bk_ a3 hb; replace a5 := bk_ a5 hb; replace a7 := bk_ a7 hb; replace b2 := bk_ b2 hb; replace d3 := bk_ d3 hb; replace HB := hk_ HB hb
 (try clear hb); (try clear J2); (try clear hk); (try clear hi)
 refine hK.out _ _ ⟨bc0_ a1, bc1_ a1, bc0_ a7, bc1_ a7, bc0_ a3, bc1_ a3, bc0_ a5, bc1_ a5⟩ (fun hHeld => ?_)
 clear hK K; refine nm_ 15 ?_
 refine one_ (i := 6) (N := some 16) (bs_ 12 511) rfl rfl (one_of HT_.out (by kernel_rfl)) (by decide) (fun K hK => ?_)
 refine gs_ Try.func61 #[.agg #[.float .f64 B3, .float .f64 B4], .agg #[.float .f64 B5, .float .f64 B6]] ?_
 with_reducible refine (impl_CxLess.calls B3 H0 B4 H1 B5 J3 B6 J4 J5 J6 _ ?d6 ?d7 ?d8 ?d9 A7.out).mono ?_
 (case d6 => exact H2)
 (case d7 => exact H3)
 (case d8 => exact H4)
 (case d9 => exact H5)
 rintro e w18 ⟨q0, B7, rfl, H6, H7, hb⟩
 refine ⟨_, rfl, ?_⟩
 replace a1 := bk_ a1 hb; replace a3 := bk_ a3 hb; replace a5 := bk_ a5 hb; replace a7 := bk_ a7 hb; replace b2 := bk_ b2 hb; replace d3 := bk_ d3 hb; replace HB := hk_ HB hb
 (try clear hb); (try clear J2); (try clear hk); (try clear hi)
 refine hK.out _ _ ⟨bc0_ a1, bc1_ a1, bc0_ a7, bc1_ a7, bc0_ a3, bc1_ a3, bc0_ a5, bc1_ a5⟩ (fun hHeld => ?_)
 clear hK K; refine nm_ 16 ?_
 refine one_ (i := 9) (N := some 19) (bs_ 12 1023) rfl rfl (one_of HT_.out (by kernel_rfl)) (by decide) (fun K hK => ?_)
 refine gs_ Try.func63 #[.agg #[.float .f64 b_a0_0, .float .f64 b_a0_1], .agg #[.float .f64 b_a3_0, .float .f64 b_a3_1]] ?_
 with_reducible refine (impl_CxAdd.calls b_a0_0 a0_0 b_a0_1 a0_1 b_a3_0 a3_0 b_a3_1 a3_1 R3 R4 _ ?d6 ?d7 ?d8 ?d9 A8.out).mono ?_
 (case d6 => exact hF_a0_0)
 (case d7 => exact hF_a0_1)
 (case d8 => exact hF_a3_0)
 (case d9 => exact hF_a3_1)
 rintro e C7 ⟨q1, B8, rfl, H8, H9, hb⟩
 refine ⟨_, rfl, ?_⟩
 replace a1 := bk_ a1 hb; replace a3 := bk_ a3 hb; replace a5 := bk_ a5 hb; replace a7 := bk_ a7 hb; replace b2 := bk_ b2 hb; replace d3 := bk_ d3 hb; replace HB := hk_ HB hb
 (try clear hb); (try clear J2); (try clear hk); (try clear hi)
 refine hK.out _ _ ⟨bc0_ a1, bc1_ a1, bc0_ a7, bc1_ a7, bc0_ a3, bc1_ a3, bc0_ a5, bc1_ a5⟩ (fun hHeld => ?_)
 clear hK K; refine nm_ 19 ?_
 refine one_ (i := 10) (N := none) (bs_ 12 2047) rfl rfl (one_of HT_.out (by kernel_rfl)) (by decide) (fun K hK => ?_)
 have V4 : C7.cell? ⟨b1, 0, none⟩ = some (.float .f64 0) := bc0_ b2
 have O8 := blk_frozen b2.out 0
 have D0 := c3.out; have D1 := c4.out
 have D2 := c5.out; have D3 := c6.out
 have D4 := d5.out; have D5 := o1.out
 have D6 := o2.out; have D7 := o3.out
 have D8 := o4.out; have D9 := d1.out
 have V5 : C7.cell? ⟨b1, 1, none⟩ = some (.float .f64 0) := bc1_ b2
 have O9 := blk_frozen b2.out 1
 have E0 := c3.out; have E1 := c4.out
 have E2 := c5.out; have E3 := c6.out
 have E4 := d5.out; have E5 := o1.out
 have E6 := o2.out; have E7 := o3.out
 have E8 := o4.out; have E9 := d1.out
 refine skip_ (w1 := ?_) (by rfl) rfl ?_ ?_
 rotate_left
 ·go_simp
  rfl
 refine hK.out _ _ ⟨((cell_far (p := ⟨b1, _, none⟩) c3.out _).trans (((cell_far (p := ⟨b1, _, none⟩) c3.out _).trans (hHeld.1)))), ((cell_far (p := ⟨b1, _, none⟩) c3.out _).trans (((cell_far (p := ⟨b1, _, none⟩) c3.out _).trans (hHeld.2.1)))), ((cell_far (p := ⟨b1, _, none⟩) c6.out _).trans (((cell_far (p := ⟨b1, _, none⟩) c6.out _).trans (hHeld.2.2.1)))), ((cell_far (p := ⟨b1, _, none⟩) c6.out _).trans (((cell_far (p := ⟨b1, _, none⟩) c6.out _).trans (hHeld.2.2.2.1)))), ((cell_far (p := ⟨b1, _, none⟩) c4.out _).trans (((cell_far (p := ⟨b1, _, none⟩) c4.out _).trans (hHeld.2.2.2.2.1)))), ((cell_far (p := ⟨b1, _, none⟩) c4.out _).trans (((cell_far (p := ⟨b1, _, none⟩) c4.out _).trans (hHeld.2.2.2.2.2.1)))), ((cell_far (p := ⟨b1, _, none⟩) c5.out _).trans (((cell_far (p := ⟨b1, _, none⟩) c5.out _).trans (hHeld.2.2.2.2.2.2.1)))), ((cell_far (p := ⟨b1, _, none⟩) c5.out _).trans (((cell_far (p := ⟨b1, _, none⟩) c5.out _).trans (hHeld.2.2.2.2.2.2.2))))⟩ (fun hHeld => ?_)
 clear hK K
 refine one_ (i := 11) (N := none) (bs_ 12 4095) rfl rfl (one_of HT_.out (by kernel_rfl)) (by decide) (fun K hK => ?_)
 have V6 : C7.cell? ⟨b3, 0, none⟩ = some (.float .f64 0) := bc0_ d3
 have P0 := blk_frozen d3.out 0
 have F0 := c7.out; have F1 := c8.out
 have F2 := c9.out; have F3 := d0.out
 have F4 := d1.out; have F5 := o5.out
 have F6 := o6.out; have F7 := o7.out
 have F8 := o8.out; have F9 := d5.out
 have V7 : C7.cell? ⟨b3, 1, none⟩ = some (.float .f64 0) := bc1_ d3
 have P1 := blk_frozen d3.out 1
 have G0 := c7.out; have G1 := c8.out
 have G2 := c9.out; have G3 := d0.out
 have G4 := d1.out; have G5 := o5.out
 have G6 := o6.out; have G7 := o7.out
 have G8 := o8.out; have G9 := d5.out
 refine skip_ (w1 := ?_) (by rfl) rfl ?_ ?_
 rotate_left
 ·go_simp
  rfl
 refine hK.out _ _ ⟨((cell_far (p := ⟨b3, _, none⟩) c7.out _).trans (((cell_far (p := ⟨b3, _, none⟩) c7.out _).trans (hHeld.1)))), ((cell_far (p := ⟨b3, _, none⟩) c7.out _).trans (((cell_far (p := ⟨b3, _, none⟩) c7.out _).trans (hHeld.2.1)))), ((cell_far (p := ⟨b3, _, none⟩) d0.out _).trans (((cell_far (p := ⟨b3, _, none⟩) d0.out _).trans (hHeld.2.2.1)))), ((cell_far (p := ⟨b3, _, none⟩) d0.out _).trans (((cell_far (p := ⟨b3, _, none⟩) d0.out _).trans (hHeld.2.2.2.1)))), ((cell_far (p := ⟨b3, _, none⟩) c8.out _).trans (((cell_far (p := ⟨b3, _, none⟩) c8.out _).trans (hHeld.2.2.2.2.1)))), ((cell_far (p := ⟨b3, _, none⟩) c8.out _).trans (((cell_far (p := ⟨b3, _, none⟩) c8.out _).trans (hHeld.2.2.2.2.2.1)))), ((cell_far (p := ⟨b3, _, none⟩) c9.out _).trans (((cell_far (p := ⟨b3, _, none⟩) c9.out _).trans (hHeld.2.2.2.2.2.2.1)))), ((cell_far (p := ⟨b3, _, none⟩) c9.out _).trans (((cell_far (p := ⟨b3, _, none⟩) c9.out _).trans (hHeld.2.2.2.2.2.2.2))))⟩ (fun hHeld => ?_)
 clear hK K
 refine done_ (done_of HT_.out (by kernel_rfl)) ?_
 try go_wp2
 refine bodyPost_ret (results_cc rfl _ _ b1 b3 39 39 #[.float .f64 q0, .float .f64 B7] #[.float .f64 q1, .float .f64 B8] (0, 0) (0, 0) _ _ rfl (by (with_reducible repeat (first | refine blk_drewN ?_ _ | refine blk_drew ?_ | refine blk_alloc ?_ _)); refine blk_far ?_ d1.out _; (with_reducible repeat (first | refine blk_drewN ?_ _ | refine blk_drew ?_ | refine blk_alloc ?_ _)); refine blk_far ?_ d1.out _; (with_reducible repeat (first | refine blk_drewN ?_ _ | refine blk_drew ?_ | refine blk_alloc ?_ _)); refine blk_put (cs := #[.float .f64 q0, .float .f64 0]) ?_ 1 _ rfl; (with_reducible repeat (first | refine blk_drewN ?_ _ | refine blk_drew ?_ | refine blk_alloc ?_ _)); refine blk_put (cs := #[.float .f64 0, .float .f64 0]) ?_ 0 _ rfl; (with_reducible repeat (first | refine blk_drewN ?_ _ | refine blk_drew ?_ | refine blk_alloc ?_ _)); exact b2.out) Try.underlying39 rfl (by kernel_rfl) rfl (by (with_reducible repeat (first | refine blk_drewN ?_ _ | refine blk_drew ?_ | refine blk_alloc ?_ _)); refine blk_put (cs := #[.float .f64 q1, .float .f64 0]) ?_ 1 _ rfl; (with_reducible repeat (first | refine blk_drewN ?_ _ | refine blk_drew ?_ | refine blk_alloc ?_ _)); refine blk_put (cs := #[.float .f64 0, .float .f64 0]) ?_ 0 _ rfl; (with_reducible repeat (first | refine blk_drewN ?_ _ | refine blk_drew ?_ | refine blk_alloc ?_ _)); refine blk_far ?_ d5.out _; (with_reducible repeat (first | refine blk_drewN ?_ _ | refine blk_drew ?_ | refine blk_alloc ?_ _)); refine blk_far ?_ d5.out _; (with_reducible repeat (first | refine blk_drewN ?_ _ | refine blk_drew ?_ | refine blk_alloc ?_ _)); exact d3.out) Try.underlying39 rfl (by kernel_rfl)) rfl ?_
 exact ⟨q0, B7, q1, B8, re_, H6, H7, H8, H9, by repeat (first | (with_reducible first | exact HB.out | apply below_alloc | apply pw_below_drewN | apply below_drew1 | refine below_set ?_ V0.out | refine below_set ?_ V2.out) | exact HB.out)⟩

end Go.Proofs.Ytkginilghcepbaa.QFnExactFlutter
-- squeezed
