/- Lean functions that tell what the Go functions used by one law answer, and for each a proof that the Go code comes to just these answers; no condition. Printed by this session's own program over the kit's printer. -/
import Derived.Test.YtfopdbdamkfglaaQFnQuotientx0
namespace Go.Proofs.Ytfopdbdamkfglaa.QFnQuotient
open Go.RowKit Go.Proofs.YtfopdbdamkfglaaW.PrintWords Go.Proofs.YtfopdbdamkfglaaW.PrintLast Go.Proofs.YtfopdbdamkfglaaW.PrintMore
attribute [local go_sem] max2_int min2_int max_two min_two max_three min_three max_four min_four   -- for this text's walks alone
attribute [local go_sem high] go_eql go_neq go_lss go_leq go_gtr go_geq go_store   -- for this text's walks alone
set_option linter.unusedVariables false
set_option linter.unusedSimpArgs false

/-! ### impl_CxTimes: function 51 -/
def impl_CxTimes.f (a0_0 : Fl) (a0_1 : Fl) (a1_0 : Fl) (a1_1 : Fl) : Option (Fl × Fl) := some ((fop .sub .f64 (fop .mul .f64 a0_0 a1_0) (fop .mul .f64 a0_1 a1_1)), (fop .add .f64 (fop .mul .f64 a0_0 a1_1) (fop .mul .f64 a0_1 a1_0)))
set_option maxHeartbeats 8000000 in
set_option maxRecDepth 100000 in
theorem impl_CxTimes.calls (b_a0_0 : Nat) (a0_0 : Fl) (b_a0_1 : Nat) (a0_1 : Fl) (b_a1_0 : Nat) (a1_0 : Fl) (b_a1_1 : Nat) (a1_1 : Fl) (r1 : Fl) (r2 : Fl) (w : World) (hF_a0_0 : cn .f64 b_a0_0 = a0_0) (hF_a0_1 : cn .f64 b_a0_1 = a0_1) (hF_a1_0 : cn .f64 b_a1_0 = a1_0) (hF_a1_1 : cn .f64 b_a1_1 = a1_1) (h : impl_CxTimes.f a0_0 a0_1 a1_0 a1_1 = some (r1, r2)) :
  Calls Try.prog 51 #[.agg #[.float .f64 b_a0_0, .float .f64 b_a0_1], .agg #[.float .f64 b_a1_0, .float .f64 b_a1_1]] w fun e w' => ∃ b_r1 b_r2 : Nat, e = .returned (.agg #[.float .f64 b_r1, .float .f64 b_r2]) ∧ cn .f64 b_r1 = r1 ∧ cn .f64 b_r2 = r2 ∧ Below w.heap.size w w' := by
 have hu34 := Try.underlying34
 have HB := Aside0.mk (Below.refl w.heap.size w)
 have H : (some ((fop .sub .f64 (fop .mul .f64 a0_0 a1_0) (fop .mul .f64 a0_1 a1_1)), (fop .add .f64 (fop .mul .f64 a0_0 a1_1) (fop .mul .f64 a0_1 a1_0)))) = some (r1, r2) := h
 clear h
 obtain ⟨ft104, hft104⟩ : ∃ y_ : Fl, y_ = (fop .mul .f64 a0_0 a1_0) := ⟨_, rfl⟩
 replace H : (some ((fop .sub .f64 ft104 (fop .mul .f64 a0_1 a1_1)), (fop .add .f64 (fop .mul .f64 a0_0 a1_1) (fop .mul .f64 a0_1 a1_0)))) = some (r1, r2) := by first | (rw [hft104]; with_reducible exact H) | (have H2_ := (Option.bind_some _ _).symm.trans H; rw [hft104]; with_reducible exact H2_) | (have H2_ := (Option.bind_some _ _).symm.trans H; with_reducible exact H2_) | with_reducible exact H | (rw [hft104]; exact H) | exact H
 have Nft104 := Aside0.mk hft104
 clear hft104
 obtain ⟨ft105, hft105⟩ : ∃ y_ : Fl, y_ = (fop .mul .f64 a0_1 a1_1) := ⟨_, rfl⟩
 replace H : (some ((fop .sub .f64 ft104 ft105), (fop .add .f64 (fop .mul .f64 a0_0 a1_1) (fop .mul .f64 a0_1 a1_0)))) = some (r1, r2) := by first | (rw [hft105]; with_reducible exact H) | (have H2_ := (Option.bind_some _ _).symm.trans H; rw [hft105]; with_reducible exact H2_) | (have H2_ := (Option.bind_some _ _).symm.trans H; with_reducible exact H2_) | with_reducible exact H | (rw [hft105]; exact H) | exact H
 have Nft105 := Aside0.mk hft105
 clear hft105
 obtain ⟨ft106, hft106⟩ : ∃ y_ : Fl, y_ = (fop .sub .f64 ft104 ft105) := ⟨_, rfl⟩
 replace H : (some (ft106, (fop .add .f64 (fop .mul .f64 a0_0 a1_1) (fop .mul .f64 a0_1 a1_0)))) = some (r1, r2) := by first | (rw [hft106]; with_reducible exact H) | (have H2_ := (Option.bind_some _ _).symm.trans H; rw [hft106]; with_reducible exact H2_) | (have H2_ := (Option.bind_some _ _).symm.trans H; with_reducible exact H2_) | with_reducible exact H | (rw [hft106]; exact H) | exact H
 have Nft106 := Aside0.mk hft106
 clear hft106
 obtain ⟨ft107, hft107⟩ : ∃ y_ : Fl, y_ = (fop .mul .f64 a0_0 a1_1) := ⟨_, rfl⟩
 replace H : (some (ft106, (fop .add .f64 ft107 (fop .mul .f64 a0_1 a1_0)))) = some (r1, r2) := by first | (rw [hft107]; with_reducible exact H) | (have H2_ := (Option.bind_some _ _).symm.trans H; rw [hft107]; with_reducible exact H2_) | (have H2_ := (Option.bind_some _ _).symm.trans H; with_reducible exact H2_) | with_reducible exact H | (rw [hft107]; exact H) | exact H
 have Nft107 := Aside0.mk hft107
 clear hft107
 obtain ⟨ft108, hft108⟩ : ∃ y_ : Fl, y_ = (fop .mul .f64 a0_1 a1_0) := ⟨_, rfl⟩
 replace H : (some (ft106, (fop .add .f64 ft107 ft108))) = some (r1, r2) := by first | (rw [hft108]; with_reducible exact H) | (have H2_ := (Option.bind_some _ _).symm.trans H; rw [hft108]; with_reducible exact H2_) | (have H2_ := (Option.bind_some _ _).symm.trans H; with_reducible exact H2_) | with_reducible exact H | (rw [hft108]; exact H) | exact H
 have Nft108 := Aside0.mk hft108
 clear hft108
 obtain ⟨ft109, hft109⟩ : ∃ y_ : Fl, y_ = (fop .add .f64 ft107 ft108) := ⟨_, rfl⟩
 replace H : (some (ft106, ft109)) = some (r1, r2) := by first | (rw [hft109]; with_reducible exact H) | (have H2_ := (Option.bind_some _ _).symm.trans H; rw [hft109]; with_reducible exact H2_) | (have H2_ := (Option.bind_some _ _).symm.trans H; with_reducible exact H2_) | with_reducible exact H | (rw [hft109]; exact H) | exact H
 have Nft109 := Aside0.mk hft109
 clear hft109
 simp only [Option.some.injEq, Prod.mk.injEq] at H
 obtain ⟨rfl, rfl⟩ := H
 go_enter Try.func51, Try.ntmps51
 go_wp2_with (first | ((with_reducible refine gate_dst (N := 2) rfl ?_); refine box_event ?hg (N := 2) ?hd (cs := #[.float .f64 b_a0_0, .float .f64 b_a0_1]) (t := 34) ?hr ?_; (case hd => rfl); (case hg => rfl); (case hr => first | (go_simp; done) | (go_simp; rfl)); intro gb101 hg w3 hbox hb; have n0_ := Aside0.mk (below_step (by exact HB.out) hb); have n1_ := Aside0.mk (hbox); have n2_ := Aside0.mk ((by rw [hg]; exact (below_size (by exact HB.out)) : w.heap.size ≤ gb101)); have n3_ := Aside0.mk ((n2_.out)); clear HB; have HB := n0_; have BK101 := n1_; have GW101 := n2_; have GE101 := n3_; clear n0_ n1_ n2_ n3_; clear hb hbox hg) | ((with_reducible refine gate_dst (N := 3) rfl ?_); refine box_event ?hg (N := 3) ?hd (cs := #[.float .f64 b_a1_0, .float .f64 b_a1_1]) (t := 34) ?hr ?_; (case hd => rfl); (case hg => rfl); (case hr => first | (go_simp; done) | (go_simp; rfl)); intro gb102 hg w4 hbox hb; have n0_ := Aside0.mk (blk_below (g := gb101) (o := .cells #[.float .f64 b_a0_0, .float .f64 b_a0_1] 34 (0, 0)) (by exact BK101.out) hb); have n1_ := Aside0.mk (below_step (by exact HB.out) hb); have n2_ := Aside0.mk (hbox); have n3_ := Aside0.mk ((by rw [hg]; exact (below_size (by exact HB.out)) : w.heap.size ≤ gb102)); have n4_ := Aside0.mk ((n3_.out)); have n5_ := Aside0.mk ((by rw [hg]; exact Nat.ne_of_lt (blk_lt (g := gb101) (o := .cells #[.float .f64 b_a0_0, .float .f64 b_a0_1] 34 (0, 0)) (by exact BK101.out)) : gb101 ≠ gb102)); have n6_ := Aside0.mk ((n5_.out.symm)); clear BK101; clear HB; have BK101 := n0_; have HB := n1_; have BK102 := n2_; have GW102 := n3_; have GE102 := n4_; have NB101_102 := n5_; have NB102_101 := n6_; clear n0_ n1_ n2_ n3_ n4_ n5_ n6_; clear hb hbox hg) | ((with_reducible refine gate_dst (N := 4) rfl ?_); refine box_event ?hg (N := 4) ?hd (cs := #[.float .f64 0, .float .f64 0]) (t := 34) ?hr ?_; (case hd => rfl); (case hg => rfl); (case hr => first | (go_simp; done) | (go_simp; rfl)); intro gb103 hg w5 hbox hb; have n0_ := Aside0.mk (blk_below (g := gb101) (o := .cells #[.float .f64 b_a0_0, .float .f64 b_a0_1] 34 (0, 0)) (by exact BK101.out) hb); have n1_ := Aside0.mk (blk_below (g := gb102) (o := .cells #[.float .f64 b_a1_0, .float .f64 b_a1_1] 34 (0, 0)) (by exact BK102.out) hb); have n2_ := Aside0.mk (below_step (by exact HB.out) hb); have n3_ := Aside0.mk (hbox); have n4_ := Aside0.mk ((by rw [hg]; exact (below_size (by exact HB.out)) : w.heap.size ≤ gb103)); have n5_ := Aside0.mk ((n4_.out)); have n6_ := Aside0.mk ((by rw [hg]; exact Nat.ne_of_lt (blk_lt (g := gb101) (o := .cells #[.float .f64 b_a0_0, .float .f64 b_a0_1] 34 (0, 0)) (by exact BK101.out)) : gb101 ≠ gb103)); have n7_ := Aside0.mk ((n6_.out.symm)); have n8_ := Aside0.mk ((by rw [hg]; exact Nat.ne_of_lt (blk_lt (g := gb102) (o := .cells #[.float .f64 b_a1_0, .float .f64 b_a1_1] 34 (0, 0)) (by exact BK102.out)) : gb102 ≠ gb103)); have n9_ := Aside0.mk ((n8_.out.symm)); clear BK101; clear BK102; clear HB; have BK101 := n0_; have BK102 := n1_; have HB := n2_; have BK103 := n3_; have GW103 := n4_; have GE103 := n5_; have NB101_103 := n6_; have NB103_101 := n7_; have NB102_103 := n8_; have NB103_102 := n9_; clear n0_ n1_ n2_ n3_ n4_ n5_ n6_ n7_ n8_ n9_; clear hb hbox hg; have hnb6 := NB101_102.out; have hnc6 := NB102_101.out; have hnb7 := NB101_103.out; have hnc7 := NB103_101.out; have hcz8_0 : w5.cell? ⟨gb101, 0, none⟩ = some (.float .f64 b_a0_0) := (blk_cell BK101.out 0).trans rfl; have hcz8_1 : w5.cell? ⟨gb101, 1, none⟩ = some (.float .f64 b_a0_1) := (blk_cell BK101.out 1).trans rfl; have hfz8_0 := blk_frozen BK101.out 0; have hfz8_1 := blk_frozen BK101.out 1; have hnb9 := NB102_103.out; have hnc9 := NB103_102.out; have hcz10_0 : w5.cell? ⟨gb102, 0, none⟩ = some (.float .f64 b_a1_0) := (blk_cell BK102.out 0).trans rfl; have hcz10_1 : w5.cell? ⟨gb102, 1, none⟩ = some (.float .f64 b_a1_1) := (blk_cell BK102.out 1).trans rfl; have hfz10_0 := blk_frozen BK102.out 0; have hfz10_1 := blk_frozen BK102.out 1) | ((with_reducible refine gate_dst (N := 9) rfl ?_); refine fop_event rfl (N := 9) rfl (op := .mul) (by simp) rfl .f64 b_a0_0 b_a1_0 a0_0 a1_0 rfl rfl hF_a0_0 hF_a1_0 ?_; intro b_ft104 nf_ hF_; replace hF_ := hF_.trans Nft104.out.symm; have hF_ft104 := hF_; clear hF_) | ((with_reducible refine gate_dst (N := 14) rfl ?_); refine fop_event rfl (N := 14) rfl (op := .mul) (by simp) rfl .f64 b_a0_1 b_a1_1 a0_1 a1_1 rfl rfl hF_a0_1 hF_a1_1 ?_; intro b_ft105 nf_ hF_; replace hF_ := hF_.trans Nft105.out.symm; have hF_ft105 := hF_; clear hF_) | ((with_reducible refine gate_dst (N := 15) rfl ?_); refine fop_event rfl (N := 15) rfl (op := .sub) (by simp) rfl .f64 b_ft104 b_ft105 ft104 ft105 rfl rfl hF_ft104 hF_ft105 ?_; intro b_ft106 nf_ hF_; replace hF_ := hF_.trans Nft106.out.symm; have hF_ft106 := hF_; clear hF_) | ((with_reducible refine gate_dst (N := 20) rfl ?_); refine fop_event rfl (N := 20) rfl (op := .mul) (by simp) rfl .f64 b_a0_0 b_a1_1 a0_0 a1_1 rfl rfl hF_a0_0 hF_a1_1 ?_; intro b_ft107 nf_ hF_; replace hF_ := hF_.trans Nft107.out.symm; have hF_ft107 := hF_; clear hF_) | ((with_reducible refine gate_dst (N := 25) rfl ?_); refine fop_event rfl (N := 25) rfl (op := .mul) (by simp) rfl .f64 b_a0_1 b_a1_0 a0_1 a1_0 rfl rfl hF_a0_1 hF_a1_0 ?_; intro b_ft108 nf_ hF_; replace hF_ := hF_.trans Nft108.out.symm; have hF_ft108 := hF_; clear hF_) | ((with_reducible refine gate_dst (N := 26) rfl ?_); refine fop_event rfl (N := 26) rfl (op := .add) (by simp) rfl .f64 b_ft107 b_ft108 ft107 ft108 rfl rfl hF_ft107 hF_ft108 ?_; intro b_ft109 nf_ hF_; replace hF_ := hF_.trans Nft109.out.symm; have hF_ft109 := hF_; clear hF_; have hcz11_0 : w5.cell? ⟨gb103, 0, none⟩ = some (.float .f64 0) := (blk_cell BK103.out 0).trans rfl; have hcz11_1 : w5.cell? ⟨gb103, 1, none⟩ = some (.float .f64 0) := (blk_cell BK103.out 1).trans rfl; have hfz11_0 := blk_frozen BK103.out 0; have hfz11_1 := blk_frozen BK103.out 1))
 refine bodyPost_ret (results_cell_row rfl _ _ gb103 34 #[.float .f64 b_ft106, .float .f64 b_ft109] (0, 0) _ rfl (by (with_reducible repeat (first | refine blk_drewN ?_ _ | refine blk_drew ?_ | refine blk_alloc ?_ _)); refine blk_put (cs := #[.float .f64 b_ft106, .float .f64 0]) ?_ 1 _ rfl; (with_reducible repeat (first | refine blk_drewN ?_ _ | refine blk_drew ?_ | refine blk_alloc ?_ _)); refine blk_put (cs := #[.float .f64 0, .float .f64 0]) ?_ 0 _ rfl; (with_reducible repeat (first | refine blk_drewN ?_ _ | refine blk_drew ?_ | refine blk_alloc ?_ _)); exact BK103.out) Try.underlying34 rfl (by kernel_rfl)) rfl ?_
 exact ⟨b_ft106, b_ft109, by first | rfl | (simp [errW_none, errW_some] <;> rfl) | (simp [*, errW_none, errW_some] <;> rfl), hF_ft106, hF_ft109, by repeat (first | (with_reducible first | exact HB.out | apply below_alloc | apply pw_below_drewN | apply below_drew1 | refine below_set ?_ GE103.out) | exact HB.out)⟩

/-! ### impl_Sharper: function 57 -/
def impl_Sharper.f (a0_0 : Fl) (a0_1 : Fl) : Option (Fl × Fl) := (fnarr a0_0).bind fun ft112 => ((fnarr a0_1).bind fun ft113 => (some (ft112, ft113)))
set_option maxHeartbeats 8000000 in
set_option maxRecDepth 100000 in
theorem impl_Sharper.calls (b_a0_0 : Nat) (a0_0 : Fl) (b_a0_1 : Nat) (a0_1 : Fl) (r1 : Fl) (r2 : Fl) (w : World) (hF_a0_0 : cn .f64 b_a0_0 = a0_0) (hF_a0_1 : cn .f64 b_a0_1 = a0_1) (h : impl_Sharper.f a0_0 a0_1 = some (r1, r2)) :
  Calls Try.prog 57 #[.agg #[.float .f64 b_a0_0, .float .f64 b_a0_1]] w fun e w' => ∃ b_r1 b_r2 : Nat, e = .returned (.agg #[.float .f32 b_r1, .float .f32 b_r2]) ∧ cn .f32 b_r1 = r1 ∧ cn .f32 b_r2 = r2 ∧ Below w.heap.size w w' := by
 have hu34 := Try.underlying34
 have hu80 := Try.underlying80
 have HB := Aside0.mk (Below.refl w.heap.size w)
 have H : ((fnarr a0_0).bind fun ft112 => ((fnarr a0_1).bind fun ft113 => (some (ft112, ft113)))) = some (r1, r2) := h
 clear h
 replace H := Option.bind_eq_some_iff.mp H
 obtain ⟨ft112, A20, H⟩ := H
 replace H : ((fnarr a0_1).bind fun ft113 => (some (ft112, ft113))) = some (r1, r2) := H
 have A2 := Aside0.mk A20
 clear A20
 replace H := Option.bind_eq_some_iff.mp H
 obtain ⟨ft113, A30, H⟩ := H
 replace H : (some (ft112, ft113)) = some (r1, r2) := H
 have A3 := Aside0.mk A30
 clear A30
 simp only [Option.some.injEq, Prod.mk.injEq] at H
 obtain ⟨rfl, rfl⟩ := H
 go_enter Try.func57, Try.ntmps57
 go_wp2_with (first | ((with_reducible refine gate_dst (N := 1) rfl ?_); refine box_event ?hg (N := 1) ?hd (cs := #[.float .f64 b_a0_0, .float .f64 b_a0_1]) (t := 34) ?hr ?_; (case hd => rfl); (case hg => rfl); (case hr => first | (go_simp; done) | (go_simp; rfl)); intro gb110 hg w4 hbox hb; have n0_ := Aside0.mk (below_step (by exact HB.out) hb); have n1_ := Aside0.mk (hbox); have n2_ := Aside0.mk ((by rw [hg]; exact (below_size (by exact HB.out)) : w.heap.size ≤ gb110)); have n3_ := Aside0.mk ((n2_.out)); clear HB; have HB := n0_; have BK110 := n1_; have GW110 := n2_; have GE110 := n3_; clear n0_ n1_ n2_ n3_; clear hb hbox hg) | ((with_reducible refine gate_dst (N := 2) rfl ?_); refine box_event ?hg (N := 2) ?hd (cs := #[.float .f32 0, .float .f32 0]) (t := 80) ?hr ?_; (case hd => rfl); (case hg => rfl); (case hr => first | (go_simp; done) | (go_simp; rfl)); intro gb111 hg w5 hbox hb; have n0_ := Aside0.mk (blk_below (g := gb110) (o := .cells #[.float .f64 b_a0_0, .float .f64 b_a0_1] 34 (0, 0)) (by exact BK110.out) hb); have n1_ := Aside0.mk (below_step (by exact HB.out) hb); have n2_ := Aside0.mk (hbox); have n3_ := Aside0.mk ((by rw [hg]; exact (below_size (by exact HB.out)) : w.heap.size ≤ gb111)); have n4_ := Aside0.mk ((n3_.out)); have n5_ := Aside0.mk ((by rw [hg]; exact Nat.ne_of_lt (blk_lt (g := gb110) (o := .cells #[.float .f64 b_a0_0, .float .f64 b_a0_1] 34 (0, 0)) (by exact BK110.out)) : gb110 ≠ gb111)); have n6_ := Aside0.mk ((n5_.out.symm)); clear BK110; clear HB; have BK110 := n0_; have HB := n1_; have BK111 := n2_; have GW111 := n3_; have GE111 := n4_; have NB110_111 := n5_; have NB111_110 := n6_; clear n0_ n1_ n2_ n3_ n4_ n5_ n6_; clear hb hbox hg; have hnb6 := NB110_111.out; have hnc6 := NB111_110.out; have hcz7_0 : w5.cell? ⟨gb110, 0, none⟩ = some (.float .f64 b_a0_0) := (blk_cell BK110.out 0).trans rfl; have hcz7_1 : w5.cell? ⟨gb110, 1, none⟩ = some (.float .f64 b_a0_1) := (blk_cell BK110.out 1).trans rfl; have hfz7_0 := blk_frozen BK110.out 0; have hfz7_1 := blk_frozen BK110.out 1) | ((with_reducible refine gate_dst (N := 5) rfl ?_); refine fnarr_event rfl (N := 5) rfl rfl b_a0_0 a0_0 ft112 Try.underlying23 Try.underlying78 rfl hF_a0_0 A2.out ?_; intro b_ft112 nf_ hF_ft112) | ((with_reducible refine gate_dst (N := 8) rfl ?_); refine fnarr_event rfl (N := 8) rfl rfl b_a0_1 a0_1 ft113 Try.underlying23 Try.underlying78 rfl hF_a0_1 A3.out ?_; intro b_ft113 nf_ hF_ft113; have hcz8_0 : w5.cell? ⟨gb111, 0, none⟩ = some (.float .f32 0) := (blk_cell BK111.out 0).trans rfl; have hcz8_1 : w5.cell? ⟨gb111, 1, none⟩ = some (.float .f32 0) := (blk_cell BK111.out 1).trans rfl; have hfz8_0 := blk_frozen BK111.out 0; have hfz8_1 := blk_frozen BK111.out 1))
 refine bodyPost_ret (results_cell_row rfl _ _ gb111 80 #[.float .f32 b_ft112, .float .f32 b_ft113] (0, 0) _ rfl (by (with_reducible repeat (first | refine blk_drewN ?_ _ | refine blk_drew ?_ | refine blk_alloc ?_ _)); refine blk_put (cs := #[.float .f32 b_ft112, .float .f32 0]) ?_ 1 _ rfl; (with_reducible repeat (first | refine blk_drewN ?_ _ | refine blk_drew ?_ | refine blk_alloc ?_ _)); refine blk_put (cs := #[.float .f32 0, .float .f32 0]) ?_ 0 _ rfl; (with_reducible repeat (first | refine blk_drewN ?_ _ | refine blk_drew ?_ | refine blk_alloc ?_ _)); exact BK111.out) Try.underlying80 rfl (by kernel_rfl)) rfl ?_
 exact ⟨b_ft112, b_ft113, by first | rfl | (simp [errW_none, errW_some] <;> rfl) | (simp [*, errW_none, errW_some] <;> rfl), hF_ft112, hF_ft113, by repeat (first | (with_reducible first | exact HB.out | apply below_alloc | apply pw_below_drewN | apply below_drew1 | refine below_set ?_ GE111.out) | exact HB.out)⟩

/-! ### impl_in: function 72 -/
def impl_in.f (a0 : Int) (a1 : Int) (a2 : Int) : Option (Bool) := if a0 ≥ a1 then (some (decide (a0 ≤ a2))) else (some false)
set_option maxHeartbeats 8000000 in
set_option maxRecDepth 100000 in
theorem impl_in.calls (a0 : Int) (a1 : Int) (a2 : Int) (r : Bool) (w : World) (h : impl_in.f a0 a1 a2 = some r) :
  Calls Try.prog 72 #[.int .i64 a0, .int .i64 a1, .int .i64 a2] w fun e w' => e = .returned (.bool r) ∧ Drawn0 w w' := by
 have H : (if a0 ≥ a1 then (some (decide (a0 ≤ a2))) else (some false)) = some r := h
 clear h
 by_cases c4 : a0 ≥ a1
 ·rw [if_pos c4] at H
  have c4b0 : decide (a1 ≤ a0) = true := decide_eq_true c4
  clear c4
  obtain rfl := Option.some.inj H
  go_enter Try.func72, Try.ntmps72
  go_wp2
  go_ret
  exact ⟨by first | rfl | (simp; done) | (simp [*]; done), by repeat (first | exact Drawn0.refl _ | apply Drawn0.step)⟩
 ·rw [if_neg c4] at H
  have c4b0 : decide (a1 ≤ a0) = false := decide_eq_false c4
  clear c4
  obtain rfl := Option.some.inj H
  go_enter Try.func72, Try.ntmps72
  go_wp2
  go_ret
  exact ⟨by first | rfl | (simp; done) | (simp [*]; done), by repeat (first | exact Drawn0.refl _ | apply Drawn0.step)⟩

/-! ### impl_Steps4: function 29 -/
def impl_Steps4.l0 : Nat → List (S80) → Int → Int → Fl → Fl → Fl → Fl → Option ((List (S80)) × Bool)
 | 0, _, _, _, _, _, _, _ => none
 | k + 1, x7, x14, x15, x115000, x115001, x120000, x120001 => if x15 < x14 then ((impl_Sharper.f x120000 x120001).bind fun bt120 => (if x7.length < 17592186044416 then ((impl_CxTimes.f x120000 x120001 x115000 x115001).bind fun bt125 => (impl_Steps4.l0 k (x7 ++ [(⟨bt120.1, bt120.2⟩ : S80)]) x14 (wrap64 (x15 + 1)) x115000 x115001 bt125.1 bt125.2)) else (none))) else (some (x7, true))
def impl_Steps4.f (k : Nat) (a0_0 : Fl) (a0_1 : Fl) (a1 : Int) : Option ((List (S80)) × Bool) := (impl_in.f a1 0 200).bind fun t115 => (if t115 = true then (impl_Steps4.l0 k (([] : List (S80))) (wrap64 (a1 + 1)) 0 a0_0 a0_1 (cn .f64 4607182418800017408) (cn .f64 0)) else (some (([] : List (S80)), false)))
theorem impl_Steps4.mono_l : ∀ k, (∀ y0 y1 y2 y3 y4 y5 y6, LeO (impl_Steps4.l0 k y0 y1 y2 y3 y4 y5 y6) (impl_Steps4.l0 (k + 1) y0 y1 y2 y3 y4 y5 y6))
 | 0 => fun _ _ _ _ _ _ _ r h => by simp [impl_Steps4.l0] at h
 | k + 1 => by
  have ih0 := impl_Steps4.mono_l k
  ·intro y0 y1 y2 y3 y4 y5 y6
   unfold impl_Steps4.l0
   repeat' first
   | (with_reducible exact ih0 _ _ _ _ _ _ _)
   | (with_reducible exact LeO.refl _)
   | (with_reducible exact LeO.none _)
   | (with_reducible refine LeO.ite ?_ ?_)
   | (with_reducible refine LeO.bind ?_ (fun _ => ?_))
   | exact ih0 _ _ _ _ _ _ _
   | exact LeO.none _
   | refine LeO.ite ?_ ?_
   | refine LeO.bind ?_ (fun _ => ?_)
theorem impl_Steps4.mono : ∀ a0 a1 a2 k, LeO (impl_Steps4.f k a0 a1 a2) (impl_Steps4.f (k + 1) a0 a1 a2) := by
 intro a0 a1 a2 k
 have ih0 := impl_Steps4.mono_l k
 unfold impl_Steps4.f
 repeat' first
   | (with_reducible exact ih0 _ _ _ _ _ _ _)
   | (with_reducible exact LeO.refl _)
   | (with_reducible exact LeO.none _)
   | (with_reducible refine LeO.ite ?_ ?_)
   | (with_reducible refine LeO.bind ?_ (fun _ => ?_))
   | exact ih0 _ _ _ _ _ _ _
   | exact LeO.none _
   | refine LeO.ite ?_ ?_
   | refine LeO.bind ?_ (fun _ => ?_)
set_option maxHeartbeats 8000000 in
set_option maxRecDepth 100000 in
theorem impl_Steps4.calls (k : Nat) (b_a0_0 : Nat) (a0_0 : Fl) (b_a0_1 : Nat) (a0_1 : Fl) (a1 : Int) (r1 : List (S80)) (r2 : Bool) (w : World) (hF_a0_0 : cn .f64 b_a0_0 = a0_0) (hF_a0_1 : cn .f64 b_a0_1 = a0_1) (h : impl_Steps4.f k a0_0 a0_1 a1 = some (r1, r2)) :
  Calls Try.prog 29 #[.agg #[.float .f64 b_a0_0, .float .f64 b_a0_1], .int .i64 a1] w fun e w' => ∃ v0_ : Value, e = .returned (.tuple #[v0_, .bool r2]) ∧ Kd.R k80 80 w' w.heap.size (fun _ => True) v0_ r1 ∧ Below w.heap.size w w' := by
 have hu34 := Try.underlying34
 have HB := Aside0.mk (Below.refl w.heap.size w)
 have H : ((impl_in.f a1 0 200).bind fun t115 => (if t115 = true then (impl_Steps4.l0 k (([] : List (S80))) (wrap64 (a1 + 1)) 0 a0_0 a0_1 (cn .f64 4607182418800017408) (cn .f64 0)) else (some (([] : List (S80)), false)))) = some (r1, r2) := h
 clear h
 replace H := Option.bind_eq_some_iff.mp H
 obtain ⟨t115, A30, H⟩ := H
 replace H : (if t115 = true then (impl_Steps4.l0 k (([] : List (S80))) (wrap64 (a1 + 1)) 0 a0_0 a0_1 (cn .f64 4607182418800017408) (cn .f64 0)) else (some (([] : List (S80)), false))) = some (r1, r2) := H
 have A3 := Aside0.mk A30
 clear A30
 by_cases c4 : t115 = true
 ·subst c4
  have H1 : (impl_Steps4.l0 k (([] : List (S80))) (wrap64 (a1 + 1)) 0 a0_0 a0_1 (cn .f64 4607182418800017408) (cn .f64 0)) = some (r1, r2) := by rw [if_pos rfl] at H; exact H
  clear H
  have H := H1
  clear H1
  obtain ⟨y116, hy116⟩ : ∃ y_ : List (S80), y_ = (([] : List (S80))) := ⟨_, rfl⟩
  replace H : (impl_Steps4.l0 k y116 (wrap64 (a1 + 1)) 0 a0_0 a0_1 (cn .f64 4607182418800017408) (cn .f64 0)) = some (r1, r2) := by first | (rw [hy116]; with_reducible exact H) | (have H2_ := (Option.bind_some _ _).symm.trans H; rw [hy116]; with_reducible exact H2_) | (have H2_ := (Option.bind_some _ _).symm.trans H; with_reducible exact H2_) | with_reducible exact H | (rw [hy116]; exact H) | exact H
  have Ny116 := Aside0.mk hy116
  clear hy116
  have H' := Aside0.mk H
  clear H
  go_enter Try.func29, Try.ntmps29
  go_wp2_with (first | ((with_reducible refine gate_dst (N := 2) rfl ?_); refine box_event ?hg (N := 2) ?hd (cs := #[.float .f64 b_a0_0, .float .f64 b_a0_1]) (t := 34) ?hr ?_; (case hd => rfl); (case hg => rfl); (case hr => first | (go_simp; done) | (go_simp; rfl)); intro gb114 hg w5 hbox hb; have n0_ := Aside0.mk (below_step (by exact HB.out) hb); have n1_ := Aside0.mk (hbox); have n2_ := Aside0.mk ((by rw [hg]; exact (below_size (by exact HB.out)) : w.heap.size ≤ gb114)); have n3_ := Aside0.mk ((n2_.out)); clear HB; have HB := n0_; have BK114 := n1_; have GW114 := n2_; have GE114 := n3_; clear n0_ n1_ n2_ n3_; clear hb hbox hg) | ((with_reducible refine gate_callee (f := 72) rfl ?_); refine goesL_ (some 9) rfl rfl Try.func72 (by kernel_rfl) rfl #[.int .i64 a1, .int .i64 0, .int .i64 200] rfl (by (try simp only [List.map_toArray, List.map_cons, List.map_nil]); first | done | rfl | (simp only [List.length_drop, List.length_take]; rfl)) ?_; (with_reducible refine (impl_in.calls a1 0 200 true _ A3.out).mono ?_); rintro e w' ⟨rfl, ⟨nd, rfl⟩⟩; refine ⟨_, rfl, ?_⟩; (try (rw [drewN_self w5]; generalize hq_ : World.drewN w5 _ = w5; have n0_ : Aside0 (w5.heap[gb114]? = some (.cells #[.float .f64 b_a0_0, .float .f64 b_a0_1] 34 (0, 0))) := ⟨by rw [← hq_]; exact (by (with_reducible repeat (first | refine blk_drewN ?_ _ | refine blk_drew ?_ | refine blk_alloc ?_ _)); exact BK114.out)⟩; have n1_ : Aside0 (Below w.heap.size w w5) := ⟨by rw [← hq_]; exact (by repeat (first | (with_reducible first | exact HB.out | apply below_alloc | apply pw_below_drewN | apply below_drew1) | exact HB.out))⟩; clear BK114 HB hq_; have BK114 := n0_; have HB := n1_; clear n0_ n1_))) | ((with_reducible refine gate_dst (N := 12) rfl ?_); refine Kd.R_lit k80 _ 80 ?hg (N := 12) ?hd (xs := ([] : List (S80))) (inner := []) (ok := fun _ => True) (okp := fun _ => True) ?hr ?hp (fun _ hk => hk) trivial (Below.refl _ _) (Nat.le_refl _) (by simp) ?_; (case hd => rfl); (case hg => rfl); (case hr => first | (go_simp; done) | (go_simp; rfl)); (case hp => exact (Reps.none _ _)); intro v117 w6 ho7 hb hg_ hnew_; clear hg_ hnew_; (first | rw [← Ny116.out] at ho7 | (simp only [Int.reduceToNat] at ho7; rw [← Ny116.out] at ho7)); have n0_ := Aside0.mk (Kd.R_lower ho7 (below_size (by exact HB.out))); have n1_ := Aside0.mk (blk_below (g := gb114) (o := .cells #[.float .f64 b_a0_0, .float .f64 b_a0_1] 34 (0, 0)) (by exact BK114.out) hb); have n2_ := Aside0.mk (below_step (by exact HB.out) hb); clear BK114; clear HB; have HO118 := n0_; have BK114 := n1_; have HB := n2_; clear n0_ n1_ n2_; clear hb ho7) | ((with_reducible refine gate_dst (N := 6) rfl ?_); refine box_event ?hg (N := 6) ?hd (cs := #[.float .f64 0, .float .f64 0]) (t := 34) ?hr ?_; (case hd => rfl); (case hg => rfl); (case hr => first | (go_simp; done) | (go_simp; rfl)); intro gb119 hg w8 hbox hb; have n0_ := Aside0.mk (Kd.R_below (by exact HO118.out) hb); have n1_ := Aside0.mk (blk_below (g := gb114) (o := .cells #[.float .f64 b_a0_0, .float .f64 b_a0_1] 34 (0, 0)) (by exact BK114.out) hb); have n2_ := Aside0.mk (below_step (by exact HB.out) hb); have n3_ := Aside0.mk (hbox); have n4_ := Aside0.mk ((by rw [hg]; exact (below_size (by exact HB.out)) : w.heap.size ≤ gb119)); have n5_ := Aside0.mk ((n4_.out)); have n6_ := Aside0.mk ((by rw [hg]; exact Nat.ne_of_lt (blk_lt (g := gb114) (o := .cells #[.float .f64 b_a0_0, .float .f64 b_a0_1] 34 (0, 0)) (by exact BK114.out)) : gb114 ≠ gb119)); have n7_ := Aside0.mk ((n6_.out.symm)); clear HO118; clear BK114; clear HB; have HO118 := n0_; have BK114 := n1_; have HB := n2_; have BK119 := n3_; have GW119 := n4_; have GE119 := n5_; have NB114_119 := n6_; have NB119_114 := n7_; clear n0_ n1_ n2_ n3_ n4_ n5_ n6_ n7_; clear hb hbox hg; have hnb9 := NB119_114.out; have hnc9 := NB114_119.out; have hcz10_0 : w8.cell? ⟨gb119, 0, none⟩ = some (.float .f64 0) := (blk_cell BK119.out 0).trans rfl; have hcz10_1 : w8.cell? ⟨gb119, 1, none⟩ = some (.float .f64 0) := (blk_cell BK119.out 1).trans rfl; have hfz10_0 := blk_frozen BK119.out 0; have hfz10_1 := blk_frozen BK119.out 1))
  go_loopg [7, 15] k (fun kq v7 v15 w' => ∃ (x7_1 : List (S80)) (x15_1 : Int) (x120000_1 : Fl) (x120001_1 : Fl) (b_x120000_1 : Nat) (b_x120001_1 : Nat), v15 = .int .i64 x15_1 ∧ Aside0 (impl_Steps4.l0 kq x7_1 (wrap64 (a1 + 1)) x15_1 a0_0 a0_1 x120000_1 x120001_1 = some (r1, r2)) ∧ Aside0 (kq ≤ k) ∧ Aside0 (cn .f64 b_x120000_1 = x120000_1) ∧ Aside0 (cn .f64 b_x120001_1 = x120001_1) ∧ Aside0 (Kd.R k80 80 w' w.heap.size (fun _ => True) v7 x7_1) ∧ Aside0 (w'.heap[gb114]? = some (.cells #[.float .f64 b_a0_0, .float .f64 b_a0_1] 34 (0, 0))) ∧ Aside0 (w'.heap[gb119]? = some (.cells #[.float .f64 b_x120000_1, .float .f64 b_x120001_1] 34 (0, 0))) ∧ Aside0 (Below w.heap.size w w'))
  case atStart => exact ⟨(y116), (0), ((cn .f64 4607182418800017408)), ((cn .f64 0)), 4607182418800017408, 0, (by first | rfl | (simp; done) | (simp [*]; done)), H', ⟨Nat.le_refl _⟩, ⟨rfl⟩, ⟨rfl⟩, ⟨by (with_reducible repeat (first | apply Kd.R_alloc | apply Kd.R_drewN | apply Kd.R_drew)); exact Kd.R_mono (Kd.R_far (p := ⟨gb119, 1, none⟩) (Kd.R_far (p := ⟨gb119, 0, none⟩) (Kd.R_types HO118.out BK119.out (by decide)) (fun _ hk => hk.2) (.float .f64 4607182418800017408)) (fun _ hk => hk.2) (.float .f64 0)) (fun _ hk => trivial)⟩, ⟨by (with_reducible repeat (first | refine blk_drewN ?_ _ | refine blk_drew ?_ | refine blk_alloc ?_ _)); refine blk_far ?_ NB114_119.out _; (with_reducible repeat (first | refine blk_drewN ?_ _ | refine blk_drew ?_ | refine blk_alloc ?_ _)); refine blk_far ?_ NB114_119.out _; (with_reducible repeat (first | refine blk_drewN ?_ _ | refine blk_drew ?_ | refine blk_alloc ?_ _)); exact BK114.out⟩, ⟨by (with_reducible repeat (first | refine blk_drewN ?_ _ | refine blk_drew ?_ | refine blk_alloc ?_ _)); refine blk_put (cs := #[.float .f64 4607182418800017408, .float .f64 0]) ?_ 1 _ rfl; (with_reducible repeat (first | refine blk_drewN ?_ _ | refine blk_drew ?_ | refine blk_alloc ?_ _)); refine blk_put (cs := #[.float .f64 0, .float .f64 0]) ?_ 0 _ rfl; (with_reducible repeat (first | refine blk_drewN ?_ _ | refine blk_drew ?_ | refine blk_alloc ?_ _)); exact BK119.out⟩, ⟨by repeat (first | (with_reducible first | exact HB.out | apply below_alloc | apply pw_below_drewN | apply below_drew1 | refine below_set ?_ GE119.out) | exact HB.out)⟩⟩
  case round =>
   clear H'
   try clear c2
   try clear p2
   try clear c4
   try clear c6
   try clear p6
   try clear c7
   try clear c9
   try clear hcz10_0
   try clear hcz10_1
   try clear hfz10_0
   try clear hfz10_1
   obtain ⟨x7_1, x15_1, x120000_1, x120001_1, b_x120000_1, b_x120001_1, rfl, HA, HK1, ⟨hF_x120000_1⟩, ⟨hF_x120001_1⟩, HO_7, BK114, BK119, HB⟩ := hrel
   cases gk with
   | zero => exact absurd HA.out (by simp [impl_Steps4.l0])
   | succ k1 =>
    have H := HA.out
    clear HA
    simp only [impl_Steps4.l0] at H
    by_cases c11 : x15_1 < (wrap64 (a1 + 1))
    ·rw [if_pos c11] at H
     have c11b0 : decide (x15_1 < (wrap64 (a1 + 1))) = true := decide_eq_true c11
     clear c11
     replace H := Option.bind_eq_some_iff.mp H
     obtain ⟨⟨t120, t121⟩, A120, H⟩ := H
     replace H : (if x7_1.length < 17592186044416 then ((impl_CxTimes.f x120000_1 x120001_1 a0_0 a0_1).bind fun bt125 => (impl_Steps4.l0 k1 (x7_1 ++ [(⟨t120, t121⟩ : S80)]) (wrap64 (a1 + 1)) (wrap64 (x15_1 + 1)) a0_0 a0_1 bt125.1 bt125.2)) else (none)) = some (r1, r2) := H
     have A12 := Aside0.mk A120
     clear A120
     by_cases c13 : x7_1.length < 17592186044416
     ·rw [if_pos c13] at H
      have LMc13 := Aside0.mk c13
      clear c13
      obtain ⟨y122, hy122⟩ : ∃ y_ : List (S80), y_ = (x7_1 ++ [(⟨t120, t121⟩ : S80)]) := ⟨_, rfl⟩
      replace H : ((impl_CxTimes.f x120000_1 x120001_1 a0_0 a0_1).bind fun bt125 => (impl_Steps4.l0 k1 y122 (wrap64 (a1 + 1)) (wrap64 (x15_1 + 1)) a0_0 a0_1 bt125.1 bt125.2)) = some (r1, r2) := by first | (rw [hy122]; with_reducible exact H) | (have H2_ := (Option.bind_some _ _).symm.trans H; rw [hy122]; with_reducible exact H2_) | (have H2_ := (Option.bind_some _ _).symm.trans H; with_reducible exact H2_) | with_reducible exact H | (rw [hy122]; exact H) | exact H
      have Ny122 := Aside0.mk hy122
      clear hy122
      replace H := Option.bind_eq_some_iff.mp H
      obtain ⟨⟨t125, t126⟩, A140, H⟩ := H
      replace H : (impl_Steps4.l0 k1 y122 (wrap64 (a1 + 1)) (wrap64 (x15_1 + 1)) a0_0 a0_1 t125 t126) = some (r1, r2) := H
      have A14 := Aside0.mk A140
      clear A140
      have H' := Aside0.mk H
      clear H
      have hnb15 := NB119_114.out
      have hnc15 := NB114_119.out
      have hcz16_0 : wr.cell? ⟨gb119, 0, none⟩ = some (.float .f64 b_x120000_1) := (blk_cell BK119.out 0).trans rfl
      have hcz16_1 : wr.cell? ⟨gb119, 1, none⟩ = some (.float .f64 b_x120001_1) := (blk_cell BK119.out 1).trans rfl
      have hfz16_0 := blk_frozen BK119.out 0
      have hfz16_1 := blk_frozen BK119.out 1
      go_wp2_with (first | ((with_reducible refine gate_callee (f := 57) rfl ?_); refine goesL_ (some 19) rfl rfl Try.func57 (by kernel_rfl) rfl #[.agg #[.float .f64 b_x120000_1, .float .f64 b_x120001_1]] rfl (by (try simp only [List.map_toArray, List.map_cons, List.map_nil]); first | done | rfl | (simp only [List.length_drop, List.length_take]; rfl)) ?_; (with_reducible refine (impl_Sharper.calls b_x120000_1 x120000_1 b_x120001_1 x120001_1 t120 t121 _ ?side1 ?side2 A12.out).mono ?_); (case side1 => exact hF_x120000_1); (case side2 => exact hF_x120001_1); rintro e w17 ⟨b_t120, b_t121, rfl, hF_t120, hF_t121, hb⟩; refine ⟨_, rfl, ?_⟩; have n0_ := Aside0.mk (Kd.R_below (by exact HO_7.out) hb); have n1_ := Aside0.mk (blk_below (g := gb114) (o := .cells #[.float .f64 b_a0_0, .float .f64 b_a0_1] 34 (0, 0)) (by exact BK114.out) hb); have n2_ := Aside0.mk (blk_below (g := gb119) (o := .cells #[.float .f64 b_x120000_1, .float .f64 b_x120001_1] 34 (0, 0)) (by exact BK119.out) hb); have n3_ := Aside0.mk (below_step (by exact HB.out) hb); clear HO_7; clear BK114; clear BK119; clear HB; have HO_7 := n0_; have BK114 := n1_; have BK119 := n2_; have HB := n3_; clear n0_ n1_ n2_ n3_; (try clear hb); (try clear hb2); (try clear hk); (try clear hi)) | ((with_reducible refine gate_builtin (b := .append) (xs := #[.tmp 17, .tmp 20]) rfl ?_); at_builtin; refine Kd.R_append k80 (w0 := w) w.heap.size rfl (.tmp 17) (.tmp 20) 46 80 (.agg #[(.float .f32 0), (.float .f32 0)]) 8 rfl Try.underlying46 info80 rfl (by decide) (by omega) u7 x7_1 (⟨t120, t121⟩ : S80) [.float .f32 b_t120, .float .f32 b_t121] (fun _ => True) (fun _ => False) rfl rfl ?aP (fun _ hk => hk.elim) ?aF ?aO ?aB ?aS ?aL ?_; (case aP => exact k80_mkM _ _ _ (⟨t120, t121⟩ : S80) hF_t120 hF_t121); (case aB => exact (by exact HB.out)); (case aF => exact (fun _ _ => trivial)); (case aO => exact (by exact HO_7.out)); (case aS => exact (below_size (by exact HB.out))); (case aL => have := LMc13.out; omega); intro v123 w18 ho hb hg hat; rw [← Ny122.out] at ho; have n0_ := Aside0.mk (blk_grown (g := gb114) (o := .cells #[.float .f64 b_a0_0, .float .f64 b_a0_1] 34 (0, 0)) (by exact BK114.out) hg (Kd.R_ne HO_7.out BK114.out (by decide))); have n1_ := Aside0.mk (blk_grown (g := gb119) (o := .cells #[.float .f64 b_x120000_1, .float .f64 b_x120001_1] 34 (0, 0)) (by exact BK119.out) hg (Kd.R_ne HO_7.out BK119.out (by decide))); have n2_ := Aside0.mk (hb); have n3_ := Aside0.mk (ho); clear BK114; clear BK119; clear HB; clear HO_7; have BK114 := n0_; have BK119 := n1_; have HB := n2_; have HO124 := n3_; clear n0_ n1_ n2_ n3_; clear ho hb hg hat; have hcz19_0 : w18.cell? ⟨gb119, 0, none⟩ = some (.float .f64 b_x120000_1) := (blk_cell BK119.out 0).trans rfl; have hcz19_1 : w18.cell? ⟨gb119, 1, none⟩ = some (.float .f64 b_x120001_1) := (blk_cell BK119.out 1).trans rfl; have hfz19_0 := blk_frozen BK119.out 0; have hfz19_1 := blk_frozen BK119.out 1; have hcz20_0 : w18.cell? ⟨gb114, 0, none⟩ = some (.float .f64 b_a0_0) := (blk_cell BK114.out 0).trans rfl; have hcz20_1 : w18.cell? ⟨gb114, 1, none⟩ = some (.float .f64 b_a0_1) := (blk_cell BK114.out 1).trans rfl; have hfz20_0 := blk_frozen BK114.out 0; have hfz20_1 := blk_frozen BK114.out 1) | ((with_reducible refine gate_callee (f := 51) rfl ?_); refine goesL_ (some 24) rfl rfl Try.func51 (by kernel_rfl) rfl #[.agg #[.float .f64 b_x120000_1, .float .f64 b_x120001_1], .agg #[.float .f64 b_a0_0, .float .f64 b_a0_1]] rfl (by (try simp only [List.map_toArray, List.map_cons, List.map_nil]); first | done | rfl | (simp only [List.length_drop, List.length_take]; rfl)) ?_; (with_reducible refine (impl_CxTimes.calls b_x120000_1 x120000_1 b_x120001_1 x120001_1 b_a0_0 a0_0 b_a0_1 a0_1 t125 t126 _ ?side1 ?side2 ?side3 ?side4 A14.out).mono ?_); (case side1 => exact hF_x120000_1); (case side2 => exact hF_x120001_1); (case side3 => exact hF_a0_0); (case side4 => exact hF_a0_1); rintro e w21 ⟨b_t125, b_t126, rfl, hF_t125, hF_t126, hb⟩; refine ⟨_, rfl, ?_⟩; have n0_ := Aside0.mk (Kd.R_below (by exact HO124.out) hb); have n1_ := Aside0.mk (blk_below (g := gb114) (o := .cells #[.float .f64 b_a0_0, .float .f64 b_a0_1] 34 (0, 0)) (by exact BK114.out) hb); have n2_ := Aside0.mk (blk_below (g := gb119) (o := .cells #[.float .f64 b_x120000_1, .float .f64 b_x120001_1] 34 (0, 0)) (by exact BK119.out) hb); have n3_ := Aside0.mk (below_step (by exact HB.out) hb); clear HO124; clear BK114; clear BK119; clear HB; have HO124 := n0_; have BK114 := n1_; have BK119 := n2_; have HB := n3_; clear n0_ n1_ n2_ n3_; (try clear hb); (try clear hb2); (try clear hk); (try clear hi); have hcz22_0 : w21.cell? ⟨gb119, 0, none⟩ = some (.float .f64 b_x120000_1) := (blk_cell BK119.out 0).trans rfl; have hcz22_1 : w21.cell? ⟨gb119, 1, none⟩ = some (.float .f64 b_x120001_1) := (blk_cell BK119.out 1).trans rfl; have hfz22_0 := blk_frozen BK119.out 0; have hfz22_1 := blk_frozen BK119.out 1))
      go_roundg k1
      case measure => have := HK1.out; omega
      case rel => exact ⟨(y122), (wrap64 (x15_1 + 1)), (t125), (t126), b_t125, b_t126, (by first | rfl | (simp; done) | (simp [*]; done)), H', ⟨by have := HK1.out; omega⟩, ⟨hF_t125⟩, ⟨hF_t126⟩, ⟨by (with_reducible repeat (first | apply Kd.R_alloc | apply Kd.R_drewN | apply Kd.R_drew)); exact Kd.R_mono (Kd.R_far (p := ⟨gb119, 1, none⟩) (Kd.R_far (p := ⟨gb119, 0, none⟩) (Kd.R_types HO124.out BK119.out (by decide)) (fun _ hk => hk.2) (.float .f64 b_t125)) (fun _ hk => hk.2) (.float .f64 b_t126)) (fun _ hk => trivial)⟩, ⟨by (with_reducible repeat (first | refine blk_drewN ?_ _ | refine blk_drew ?_ | refine blk_alloc ?_ _)); refine blk_far ?_ NB114_119.out _; (with_reducible repeat (first | refine blk_drewN ?_ _ | refine blk_drew ?_ | refine blk_alloc ?_ _)); refine blk_far ?_ NB114_119.out _; (with_reducible repeat (first | refine blk_drewN ?_ _ | refine blk_drew ?_ | refine blk_alloc ?_ _)); exact BK114.out⟩, ⟨by (with_reducible repeat (first | refine blk_drewN ?_ _ | refine blk_drew ?_ | refine blk_alloc ?_ _)); refine blk_put (cs := #[.float .f64 b_t125, .float .f64 b_x120001_1]) ?_ 1 _ rfl; (with_reducible repeat (first | refine blk_drewN ?_ _ | refine blk_drew ?_ | refine blk_alloc ?_ _)); refine blk_put (cs := #[.float .f64 b_x120000_1, .float .f64 b_x120001_1]) ?_ 0 _ rfl; (with_reducible repeat (first | refine blk_drewN ?_ _ | refine blk_drew ?_ | refine blk_alloc ?_ _)); exact BK119.out⟩, ⟨by repeat (first | (with_reducible first | exact HB.out | apply below_alloc | apply pw_below_drewN | apply below_drew1 | refine below_set ?_ GE119.out) | exact HB.out)⟩⟩
     ·rw [if_neg c13] at H
      exact absurd H (by simp)
    ·rw [if_neg c11] at H
     have c11b0 : decide (x15_1 < (wrap64 (a1 + 1))) = false := decide_eq_false c11
     clear c11
     simp only [Option.some.injEq, Prod.mk.injEq] at H
     obtain ⟨rfl, rfl⟩ := H
     go_wp2
     go_ret2
     exact ⟨_, by first | rfl | (simp [errW_none, errW_some] <;> rfl) | (simp [*, errW_none, errW_some] <;> rfl), by (with_reducible repeat (first | apply Kd.R_alloc | apply Kd.R_drewN | apply Kd.R_drew)); exact HO_7.out, by repeat (first | (with_reducible first | exact HB.out | apply below_alloc | apply pw_below_drewN | apply below_drew1) | exact HB.out)⟩
 ·replace c4 := Bool.eq_false_iff.mpr c4
  subst c4
  have H1 : (some (([] : List (S80)), false)) = some (r1, r2) := by rw [if_neg (show ¬ (false = true) by decide)] at H; exact H
  clear H
  have H := H1
  clear H1
  simp only [Option.some.injEq, Prod.mk.injEq] at H
  obtain ⟨rfl, rfl⟩ := H
  go_enter Try.func29, Try.ntmps29
  go_wp2_with (first | ((with_reducible refine gate_dst (N := 2) rfl ?_); refine box_event ?hg (N := 2) ?hd (cs := #[.float .f64 b_a0_0, .float .f64 b_a0_1]) (t := 34) ?hr ?_; (case hd => rfl); (case hg => rfl); (case hr => first | (go_simp; done) | (go_simp; rfl)); intro gb114 hg w23 hbox hb; have n0_ := Aside0.mk (below_step (by exact HB.out) hb); have n1_ := Aside0.mk (hbox); have n2_ := Aside0.mk ((by rw [hg]; exact (below_size (by exact HB.out)) : w.heap.size ≤ gb114)); have n3_ := Aside0.mk ((n2_.out)); clear HB; have HB := n0_; have BK114 := n1_; have GW114 := n2_; have GE114 := n3_; clear n0_ n1_ n2_ n3_; clear hb hbox hg) | ((with_reducible refine gate_callee (f := 72) rfl ?_); refine goesL_ (some 9) rfl rfl Try.func72 (by kernel_rfl) rfl #[.int .i64 a1, .int .i64 0, .int .i64 200] rfl (by (try simp only [List.map_toArray, List.map_cons, List.map_nil]); first | done | rfl | (simp only [List.length_drop, List.length_take]; rfl)) ?_; (with_reducible refine (impl_in.calls a1 0 200 false _ A3.out).mono ?_); rintro e w' ⟨rfl, ⟨nd, rfl⟩⟩; refine ⟨_, rfl, ?_⟩))
  go_ret2
  exact ⟨_, by first | rfl | (simp [errW_none, errW_some] <;> rfl) | (simp [*, errW_none, errW_some] <;> rfl), by first | exact Kd.R_nil _ _ _ _ _ | exact Kd.N_nil _ _ _ _ _ | exact Kd.V_nil _ _ _ _ _ | exact Kd.Q_nil _ _ _ _ _ | exact Kd.S_nil _ _ _ _ _, by repeat (first | (with_reducible first | exact HB.out | apply below_alloc | apply pw_below_drewN | apply below_drew1) | exact HB.out)⟩

/-! ### laws_big: function 48 -/
def laws_big.f (l0 : List Int) : Option (Bool) := some (decide ((l0.length : Int) > 1048576))
set_option maxHeartbeats 8000000 in
set_option maxRecDepth 100000 in
theorem laws_big.calls (A0 : Option Addr) (c0 : Nat) (l0 : List Int) (r : Bool) (w : World) (hr0 : Kd.C (Kd.int .u8) w A0 l0.length l0) (hc0 : l0.length ≤ c0) (h : laws_big.f l0 = some r) :
  Calls Try.prog 48 #[.slice A0 l0.length c0] w fun e w' => e = .returned (.bool r) ∧ Drawn0 w w' := by
 have HR0 := Aside0.mk hr0
 have HC0 := Aside0.mk hc0
 clear hr0 hc0
 have H : (some (decide ((l0.length : Int) > 1048576))) = some r := h
 clear h
 obtain rfl := Option.some.inj H
 go_enter Try.func48, Try.ntmps48
 go_wp2
 go_ret
 exact ⟨by first | rfl | (simp; done) | (simp [*]; done), by repeat (first | exact Drawn0.refl _ | apply Drawn0.step)⟩

/-! ### laws_at: function 49 -/
def laws_at.f (l0 : List Int) (a1 : Int) : Option (Int) := if a1 < (l0.length : Int) then (if 0 ≤ a1 then (some (wrap64 (rd l0 a1))) else (none)) else (some (Int.tmod (wrap64 ((wrap64 (a1 * 7)) + (l0.length : Int))) 256))
set_option maxHeartbeats 8000000 in
set_option maxRecDepth 100000 in
theorem laws_at.calls (A0 : Option Addr) (c0 : Nat) (l0 : List Int) (a1 : Int) (r : Int) (w : World) (hr0 : Kd.C (Kd.int .u8) w A0 l0.length l0) (hc0 : l0.length ≤ c0) (h : laws_at.f l0 a1 = some r) :
  Calls Try.prog 49 #[.slice A0 l0.length c0, .int .i64 a1] w fun e w' => e = .returned (.int .i64 r) ∧ Drawn0 w w' := by
 have HR0 := Aside0.mk hr0
 have HC0 := Aside0.mk hc0
 clear hr0 hc0
 have H : (if a1 < (l0.length : Int) then (if 0 ≤ a1 then (some (wrap64 (rd l0 a1))) else (none)) else (some (Int.tmod (wrap64 ((wrap64 (a1 * 7)) + (l0.length : Int))) 256))) = some r := h
 clear h
 by_cases c3 : a1 < (l0.length : Int)
 ·rw [if_pos c3] at H
  have c3b0 : decide (a1 < (l0.length : Int)) = true := decide_eq_true c3
  clear c3
  by_cases c4 : 0 ≤ a1
  ·rw [if_pos c4] at H
   have c4b0 : decide (0 ≤ a1) = true := decide_eq_true c4
   clear c4
   obtain rfl := Option.some.inj H
   have p127 : 0 ≤ (a1 : Int) := of_decide_eq_true (by first | (with_reducible assumption) | assumption)
   have q127 : a1 < (l0.length : Int) := of_decide_eq_true (by first | (with_reducible assumption) | assumption)
   obtain ⟨ad127, e127, hx127_0⟩ := Kd.at_int HR0.out a1 p127 q127
   cases e127
   replace p127 := eq_true p127
   replace q127 := eq_true q127
   go_enter Try.func49, Try.ntmps49
   go_wp2
   go_ret
   exact ⟨by first | rfl | (simp; done) | (simp [*]; done), by repeat (first | exact Drawn0.refl _ | apply Drawn0.step)⟩
  ·rw [if_neg c4] at H
   exact absurd H (by simp)
 ·rw [if_neg c3] at H
  have c3b0 : decide (a1 < (l0.length : Int)) = false := decide_eq_false c3
  clear c3
  obtain rfl := Option.some.inj H
  go_enter Try.func49, Try.ntmps49
  go_wp2
  go_ret
  exact ⟨by first | rfl | (simp; done) | (simp [*]; done), by repeat (first | exact Drawn0.refl _ | apply Drawn0.step)⟩

/-! ### impl_finite_1: function 94 -/
def impl_finite_1.f (a0 : Fl) : Option (Bool) := some (fcmp .neq .f64 (fop .sub .f64 a0 a0) (cn .f64 0))
set_option maxHeartbeats 8000000 in
set_option maxRecDepth 100000 in
theorem impl_finite_1.calls (b_a0 : Nat) (a0 : Fl) (r : Bool) (w : World) (hF_a0 : cn .f64 b_a0 = a0) (h : impl_finite_1.f a0 = some r) :
  Calls Try.prog 94 #[.float .f64 b_a0] w fun e w' => e = .returned (.bool r) ∧ Drawn0 w w' := by
 have H : (some (fcmp .neq .f64 (fop .sub .f64 a0 a0) (cn .f64 0))) = some r := h
 clear h
 obtain ⟨ft128, hft128⟩ : ∃ y_ : Fl, y_ = (fop .sub .f64 a0 a0) := ⟨_, rfl⟩
 replace H : (some (fcmp .neq .f64 ft128 (cn .f64 0))) = some r := by first | (rw [hft128]; with_reducible exact H) | (have H2_ := (Option.bind_some _ _).symm.trans H; rw [hft128]; with_reducible exact H2_) | (have H2_ := (Option.bind_some _ _).symm.trans H; with_reducible exact H2_) | with_reducible exact H | (rw [hft128]; exact H) | exact H
 have Nft128 := Aside0.mk hft128
 clear hft128
 obtain rfl := Option.some.inj H
 go_enter Try.func94, Try.ntmps94
 go_wp2_with (first | ((with_reducible refine gate_dst (N := 5) rfl ?_); refine fop_event rfl (N := 5) rfl (op := .sub) (by simp) rfl .f64 b_a0 b_a0 a0 a0 rfl rfl hF_a0 hF_a0 ?_; intro b_ft128 nf_ hF_; replace hF_ := hF_.trans Nft128.out.symm; have hF_ft128 := hF_; clear hF_))
 go_ret
 exact ⟨by first | rfl | (simp; done) | (simp [*]; done), by repeat (first | exact Drawn0.refl _ | apply Drawn0.step)⟩

/-! ### slices_IndexFunc_float64_float64: function 76 -/
def slices_IndexFunc_float64_float64.l0 : Nat → List (Fl) → Int → Int → Option (Int)
 | 0, _, _, _ => none
 | k + 1, x0, x7, x8 => if x8 < x7 then (if 0 ≤ x8 then (if x8 < (x0.length : Int) then ((impl_finite_1.f (rdf .f64 x0 x8)).bind fun t130 => (if t130 = true then (some x8) else (slices_IndexFunc_float64_float64.l0 k x0 x7 (wrap64 (x8 + 1))))) else (none)) else (none)) else (some (-1))
def slices_IndexFunc_float64_float64.f (k : Nat) (l0 : List (Fl)) (a1 : Unit) : Option (Int) := slices_IndexFunc_float64_float64.l0 k l0 (l0.length : Int) 0
theorem slices_IndexFunc_float64_float64.mono_l : ∀ k, (∀ y0 y1 y2, LeO (slices_IndexFunc_float64_float64.l0 k y0 y1 y2) (slices_IndexFunc_float64_float64.l0 (k + 1) y0 y1 y2))
 | 0 => fun _ _ _ r h => by simp [slices_IndexFunc_float64_float64.l0] at h
 | k + 1 => by
  have ih0 := slices_IndexFunc_float64_float64.mono_l k
  ·intro y0 y1 y2
   unfold slices_IndexFunc_float64_float64.l0
   repeat' first
   | (with_reducible exact ih0 _ _ _)
   | (with_reducible exact LeO.refl _)
   | (with_reducible exact LeO.none _)
   | (with_reducible refine LeO.ite ?_ ?_)
   | (with_reducible refine LeO.bind ?_ (fun _ => ?_))
   | exact ih0 _ _ _
   | exact LeO.none _
   | refine LeO.ite ?_ ?_
   | refine LeO.bind ?_ (fun _ => ?_)
theorem slices_IndexFunc_float64_float64.mono : ∀ a0 a1 k, LeO (slices_IndexFunc_float64_float64.f k a0 a1) (slices_IndexFunc_float64_float64.f (k + 1) a0 a1) := by
 intro a0 a1 k
 have ih0 := slices_IndexFunc_float64_float64.mono_l k
 unfold slices_IndexFunc_float64_float64.f
 repeat' first
   | (with_reducible exact ih0 _ _ _)
   | (with_reducible exact LeO.refl _)
   | (with_reducible exact LeO.none _)
   | (with_reducible refine LeO.ite ?_ ?_)
   | (with_reducible refine LeO.bind ?_ (fun _ => ?_))
   | exact ih0 _ _ _
   | exact LeO.none _
   | refine LeO.ite ?_ ?_
   | refine LeO.bind ?_ (fun _ => ?_)
set_option maxHeartbeats 8000000 in
set_option maxRecDepth 100000 in
theorem slices_IndexFunc_float64_float64.calls (k : Nat) (A0 : Option Addr) (c0 : Nat) (l0 : List (Fl)) (a1 : Unit) (r : Int) (w : World) (hr0 : Kd.C (Kd.fl .f64) w A0 l0.length l0) (hc0 : l0.length ≤ c0) (h : slices_IndexFunc_float64_float64.f k l0 a1 = some r) :
  Calls Try.prog 76 #[.slice A0 l0.length c0, .func (.func 94) #[] #[]] w fun e w' => e = .returned (.int .i64 r) ∧ Drawn0 w w' := by
 have HR0 := Aside0.mk hr0
 have HC0 := Aside0.mk hc0
 clear hr0 hc0
 have H : (slices_IndexFunc_float64_float64.l0 k l0 (l0.length : Int) 0) = some r := h
 clear h
 have H' := Aside0.mk H
 clear H
 go_enter Try.func76, Try.ntmps76
 go_wp2
 go_loopg [8] k (fun kq v8 w' => ∃ (x8_1 : Int), v8 = .int .i64 x8_1 ∧ Aside0 (slices_IndexFunc_float64_float64.l0 kq l0 (l0.length : Int) x8_1 = some r) ∧ Aside0 (kq ≤ k) ∧ Drawn0 w w')
 case atStart => exact ⟨(0), (by first | rfl | (simp; done) | (simp [*]; done)), H', ⟨Nat.le_refl _⟩, by repeat (first | exact Drawn0.refl _ | apply Drawn0.step)⟩
 case round =>
  clear H'
  try clear p2
  obtain ⟨x8_1, rfl, HA, HK1, ⟨m1, rfl⟩⟩ := hrel
  cases gk with
  | zero => exact absurd HA.out (by simp [slices_IndexFunc_float64_float64.l0])
  | succ k1 =>
   have H := HA.out
   clear HA
   simp only [slices_IndexFunc_float64_float64.l0] at H
   by_cases c3 : x8_1 < (l0.length : Int)
   ·rw [if_pos c3] at H
    have c3b0 : decide (x8_1 < (l0.length : Int)) = true := decide_eq_true c3
    clear c3
    by_cases c4 : 0 ≤ x8_1
    ·rw [if_pos c4] at H
     have c4b0 : decide (0 ≤ x8_1) = true := decide_eq_true c4
     clear c4
     by_cases c5 : x8_1 < (l0.length : Int)
     ·rw [if_pos c5] at H
      have c5b0 : decide (x8_1 < (l0.length : Int)) = true := decide_eq_true c5
      clear c5
      obtain ⟨fr129_0, hfr129_0⟩ : ∃ y_ : Fl, y_ = (rdf .f64 l0 x8_1) := ⟨_, rfl⟩
      replace H : ((impl_finite_1.f fr129_0).bind fun t130 => (if t130 = true then (some x8_1) else (slices_IndexFunc_float64_float64.l0 k1 l0 (l0.length : Int) (wrap64 (x8_1 + 1))))) = some r := by first | (rw [hfr129_0]; with_reducible exact H) | (have H2_ := (Option.bind_some _ _).symm.trans H; rw [hfr129_0]; with_reducible exact H2_) | (have H2_ := (Option.bind_some _ _).symm.trans H; with_reducible exact H2_) | with_reducible exact H | (rw [hfr129_0]; exact H) | exact H
      have Nfr129_0 := Aside0.mk hfr129_0
      clear hfr129_0
      replace H := Option.bind_eq_some_iff.mp H
      obtain ⟨t130, A60, H⟩ := H
      replace H : (if t130 = true then (some x8_1) else (slices_IndexFunc_float64_float64.l0 k1 l0 (l0.length : Int) (wrap64 (x8_1 + 1)))) = some r := H
      have A6 := Aside0.mk A60
      clear A60
      by_cases c7 : t130 = true
      ·subst c7
       have H1 : (some x8_1) = some r := by rw [if_pos rfl] at H; exact H
       clear H
       have H := H1
       clear H1
       obtain rfl := Option.some.inj H
       have p129 : 0 ≤ (x8_1 : Int) := of_decide_eq_true (by first | (with_reducible assumption) | assumption)
       have q129 : x8_1 < (l0.length : Int) := of_decide_eq_true (by first | (with_reducible assumption) | assumption)
       obtain ⟨ad129, b_fr129_0, e129, hx129_0, hF129_0⟩ := Kd.at_fl HR0.out x8_1 p129 q129
       have hF_fr129_0 := hF129_0.trans Nfr129_0.out.symm
       clear hF129_0
       cases e129
       replace p129 := eq_true p129
       replace q129 := eq_true q129
       go_wp2_with (first | (go_at_call 94; (with_reducible refine (impl_finite_1.calls b_fr129_0 fr129_0 true _ ?side1 A6.out).mono ?_); (case side1 => exact hF_fr129_0); rintro e w' ⟨rfl, ⟨nd, rfl⟩⟩))
       go_ret
       exact ⟨by first | rfl | (simp; done) | (simp [*]; done), by repeat (first | exact Drawn0.refl _ | apply Drawn0.step)⟩
      ·replace c7 := Bool.eq_false_iff.mpr c7
       subst c7
       have H1 : (slices_IndexFunc_float64_float64.l0 k1 l0 (l0.length : Int) (wrap64 (x8_1 + 1))) = some r := by rw [if_neg (show ¬ (false = true) by decide)] at H; exact H
       clear H
       have H := H1
       clear H1
       have H' := Aside0.mk H
       clear H
       have p129 : 0 ≤ (x8_1 : Int) := of_decide_eq_true (by first | (with_reducible assumption) | assumption)
       have q129 : x8_1 < (l0.length : Int) := of_decide_eq_true (by first | (with_reducible assumption) | assumption)
       obtain ⟨ad129, b_fr129_0, e129, hx129_0, hF129_0⟩ := Kd.at_fl HR0.out x8_1 p129 q129
       have hF_fr129_0 := hF129_0.trans Nfr129_0.out.symm
       clear hF129_0
       cases e129
       replace p129 := eq_true p129
       replace q129 := eq_true q129
       go_wp2_with (first | (go_at_call 94; (with_reducible refine (impl_finite_1.calls b_fr129_0 fr129_0 false _ ?side1 A6.out).mono ?_); (case side1 => exact hF_fr129_0); rintro e w' ⟨rfl, ⟨nd, rfl⟩⟩))
       go_roundg k1
       case measure => have := HK1.out; omega
       case rel => exact ⟨(wrap64 (x8_1 + 1)), (by first | rfl | (simp; done) | (simp [*]; done)), H', ⟨by have := HK1.out; omega⟩, by repeat (first | exact Drawn0.refl _ | apply Drawn0.step)⟩
     ·rw [if_neg c5] at H
      exact absurd H (by simp)
    ·rw [if_neg c4] at H
     exact absurd H (by simp)
   ·rw [if_neg c3] at H
    have c3b0 : decide (x8_1 < (l0.length : Int)) = false := decide_eq_false c3
    clear c3
    obtain rfl := Option.some.inj H
    go_wp2
    go_ret
    exact ⟨by first | rfl | (simp; done) | (simp [*]; done), by repeat (first | exact Drawn0.refl _ | apply Drawn0.step)⟩

/-! ### slices_ContainsFunc_float64_float64: function 93 -/
def slices_ContainsFunc_float64_float64.f (k : Nat) (l0 : List (Fl)) (a1 : Unit) : Option (Bool) := (slices_IndexFunc_float64_float64.f k l0 a1).bind fun t131 => (some (decide (t131 ≥ 0)))
theorem slices_ContainsFunc_float64_float64.mono : ∀ a0 a1 k, LeO (slices_ContainsFunc_float64_float64.f k a0 a1) (slices_ContainsFunc_float64_float64.f (k + 1) a0 a1) := by
 intro a0 a1 k
 unfold slices_ContainsFunc_float64_float64.f
 repeat' first
   | (with_reducible exact slices_IndexFunc_float64_float64.mono _ _ _)
   | (with_reducible exact LeO.refl _)
   | (with_reducible exact LeO.none _)
   | (with_reducible refine LeO.ite ?_ ?_)
   | (with_reducible refine LeO.bind ?_ (fun _ => ?_))
   | exact slices_IndexFunc_float64_float64.mono _ _ _
   | exact LeO.none _
   | refine LeO.ite ?_ ?_
   | refine LeO.bind ?_ (fun _ => ?_)
set_option maxHeartbeats 8000000 in
set_option maxRecDepth 100000 in
theorem slices_ContainsFunc_float64_float64.calls (k : Nat) (A0 : Option Addr) (c0 : Nat) (l0 : List (Fl)) (a1 : Unit) (r : Bool) (w : World) (hr0 : Kd.C (Kd.fl .f64) w A0 l0.length l0) (hc0 : l0.length ≤ c0) (h : slices_ContainsFunc_float64_float64.f k l0 a1 = some r) :
  Calls Try.prog 93 #[.slice A0 l0.length c0, .func (.func 94) #[] #[]] w fun e w' => e = .returned (.bool r) ∧ Drawn0 w w' := by
 have HR0 := Aside0.mk hr0
 have HC0 := Aside0.mk hc0
 clear hr0 hc0
 have H : ((slices_IndexFunc_float64_float64.f k l0 a1).bind fun t131 => (some (decide (t131 ≥ 0)))) = some r := h
 clear h
 replace H := Option.bind_eq_some_iff.mp H
 obtain ⟨t131, A30, H⟩ := H
 replace H : (some (decide (t131 ≥ 0))) = some r := H
 have A3 := Aside0.mk A30
 clear A30
 obtain rfl := Option.some.inj H
 go_enter Try.func93, Try.ntmps93
 go_wp2_with (first | ((with_reducible refine gate_callee (f := 76) rfl ?_); refine goesL_ (some 7) rfl rfl Try.func76 (by kernel_rfl) rfl #[.slice A0 l0.length c0, .func (.func 94) #[] #[]] rfl (by (try simp only [List.map_toArray, List.map_cons, List.map_nil]); first | done | rfl | (simp only [List.length_drop, List.length_take]; rfl)) ?_; (with_reducible refine (slices_IndexFunc_float64_float64.calls k _ _ l0 a1 t131 _ ?side1 ?side2 A3.out).mono ?_); (case side1 => repeat (first | exact HR0.out | (with_reducible refine Kd.C_alloc ?_ _) | (with_reducible refine Kd.C_drewN ?_ _) | (with_reducible refine Kd.C_drew ?_))); (case side2 => exact HC0.out); rintro e w' ⟨rfl, ⟨nd, rfl⟩⟩; refine ⟨_, rfl, ?_⟩))
 go_ret
 exact ⟨by first | rfl | (simp; done) | (simp [*]; done), by repeat (first | exact Drawn0.refl _ | apply Drawn0.step)⟩

/-! ### impl_finite: function 81 -/
def impl_finite.f (k : Nat) (l0 : List (Fl)) : Option (Bool) := (slices_ContainsFunc_float64_float64.f k l0 ()).bind fun t132 => (some (!t132))
theorem impl_finite.mono : ∀ a0 k, LeO (impl_finite.f k a0) (impl_finite.f (k + 1) a0) := by
 intro a0 k
 unfold impl_finite.f
 repeat' first
   | (with_reducible exact slices_ContainsFunc_float64_float64.mono _ _ _)
   | (with_reducible exact LeO.refl _)
   | (with_reducible exact LeO.none _)
   | (with_reducible refine LeO.ite ?_ ?_)
   | (with_reducible refine LeO.bind ?_ (fun _ => ?_))
   | exact slices_ContainsFunc_float64_float64.mono _ _ _
   | exact LeO.none _
   | refine LeO.ite ?_ ?_
   | refine LeO.bind ?_ (fun _ => ?_)
set_option maxHeartbeats 8000000 in
set_option maxRecDepth 100000 in
theorem impl_finite.calls (k : Nat) (A0 : Option Addr) (c0 : Nat) (l0 : List (Fl)) (r : Bool) (w : World) (hr0 : Kd.C (Kd.fl .f64) w A0 l0.length l0) (hc0 : l0.length ≤ c0) (h : impl_finite.f k l0 = some r) :
  Calls Try.prog 81 #[.slice A0 l0.length c0] w fun e w' => e = .returned (.bool r) ∧ Drawn0 w w' := by
 have HR0 := Aside0.mk hr0
 have HC0 := Aside0.mk hc0
 clear hr0 hc0
 have H : ((slices_ContainsFunc_float64_float64.f k l0 ()).bind fun t132 => (some (!t132))) = some r := h
 clear h
 replace H := Option.bind_eq_some_iff.mp H
 obtain ⟨t132, A20, H⟩ := H
 replace H : (some (!t132)) = some r := H
 have A2 := Aside0.mk A20
 clear A20
 obtain rfl := Option.some.inj H
 go_enter Try.func81, Try.ntmps81
 go_wp2_with (first | ((with_reducible refine gate_callee (f := 93) rfl ?_); refine goesL_ (some 4) rfl rfl Try.func93 (by kernel_rfl) rfl #[.slice A0 l0.length c0, .func (.func 94) #[] #[]] rfl (by (try simp only [List.map_toArray, List.map_cons, List.map_nil]); first | done | rfl | (simp only [List.length_drop, List.length_take]; rfl)) ?_; (with_reducible refine (slices_ContainsFunc_float64_float64.calls k _ _ l0 () t132 _ ?side1 ?side2 A2.out).mono ?_); (case side1 => repeat (first | exact HR0.out | (with_reducible refine Kd.C_alloc ?_ _) | (with_reducible refine Kd.C_drewN ?_ _) | (with_reducible refine Kd.C_drew ?_))); (case side2 => exact HC0.out); rintro e w' ⟨rfl, ⟨nd, rfl⟩⟩; refine ⟨_, rfl, ?_⟩))
 go_ret
 exact ⟨by first | rfl | (simp; done) | (simp [*]; done), by repeat (first | exact Drawn0.refl _ | apply Drawn0.step)⟩

/-! ### impl_CxOver: function 50 -/
def impl_CxOver.j0 : Nat → Fl → Bool → Fl → Fl → Fl → Fl → Option (Fl × Fl × Bool)
 | 0, _, _, _, _, _, _ => none
 | k + 1, x6, x34, x134000, x134001, x135000, x135001 => if x34 = true then (some ((cn .f64 0), (cn .f64 0), false)) else ((impl_CxTimes.f x134000 x134001 x135000 (fneg .f64 x135001)).bind fun bt144 => (some ((fop .quo .f64 bt144.1 x6), (fop .quo .f64 bt144.2 x6), true)))
def impl_CxOver.f (k : Nat) (a0_0 : Fl) (a0_1 : Fl) (a1_0 : Fl) (a1_1 : Fl) : Option (Fl × Fl × Bool) := (some (fop .add .f64 (fop .mul .f64 a1_0 a1_0) (fop .mul .f64 a1_1 a1_1) : Fl)).bind fun ft138 => ((impl_finite.f k (([a0_0, a0_1, a1_0, a1_1, ft138] : List (Fl)))).bind fun t142 => (if t142 = true then (impl_CxOver.j0 k ft138 (fcmp .eql .f64 ft138 (cn .f64 0)) a0_0 a0_1 a1_0 a1_1) else (impl_CxOver.j0 k ft138 true a0_0 a0_1 a1_0 a1_1)))
theorem impl_CxOver.mono_l : ∀ k, (∀ y0 y1 y2 y3 y4 y5, LeO (impl_CxOver.j0 k y0 y1 y2 y3 y4 y5) (impl_CxOver.j0 (k + 1) y0 y1 y2 y3 y4 y5))
 | 0 => fun _ _ _ _ _ _ r h => by simp [impl_CxOver.j0] at h
 | k + 1 => by
  have ih0 := impl_CxOver.mono_l k
  ·intro y0 y1 y2 y3 y4 y5
   unfold impl_CxOver.j0
   repeat' first
   | (with_reducible exact ih0 _ _ _ _ _ _)
   | (with_reducible exact impl_finite.mono _ _)
   | (with_reducible exact LeO.refl _)
   | (with_reducible exact LeO.none _)
   | (with_reducible refine LeO.ite ?_ ?_)
   | (with_reducible refine LeO.bind ?_ (fun _ => ?_))
   | exact ih0 _ _ _ _ _ _
   | exact impl_finite.mono _ _
   | exact LeO.none _
   | refine LeO.ite ?_ ?_
   | refine LeO.bind ?_ (fun _ => ?_)
theorem impl_CxOver.mono : ∀ a0 a1 a2 a3 k, LeO (impl_CxOver.f k a0 a1 a2 a3) (impl_CxOver.f (k + 1) a0 a1 a2 a3) := by
 intro a0 a1 a2 a3 k
 have ih0 := impl_CxOver.mono_l k
 unfold impl_CxOver.f
 repeat' first
   | (with_reducible exact ih0 _ _ _ _ _ _)
   | (with_reducible exact impl_finite.mono _ _)
   | (with_reducible exact LeO.refl _)
   | (with_reducible exact LeO.none _)
   | (with_reducible refine LeO.ite ?_ ?_)
   | (with_reducible refine LeO.bind ?_ (fun _ => ?_))
   | exact ih0 _ _ _ _ _ _
   | exact impl_finite.mono _ _
   | exact LeO.none _
   | refine LeO.ite ?_ ?_
   | refine LeO.bind ?_ (fun _ => ?_)
set_option maxHeartbeats 8000000 in
set_option maxRecDepth 100000 in
theorem impl_CxOver.calls (k : Nat) (b_a0_0 : Nat) (a0_0 : Fl) (b_a0_1 : Nat) (a0_1 : Fl) (b_a1_0 : Nat) (a1_0 : Fl) (b_a1_1 : Nat) (a1_1 : Fl) (r1 : Fl) (r2 : Fl) (r3 : Bool) (w : World) (hF_a0_0 : cn .f64 b_a0_0 = a0_0) (hF_a0_1 : cn .f64 b_a0_1 = a0_1) (hF_a1_0 : cn .f64 b_a1_0 = a1_0) (hF_a1_1 : cn .f64 b_a1_1 = a1_1) (h : impl_CxOver.f k a0_0 a0_1 a1_0 a1_1 = some (r1, r2, r3)) :
  Calls Try.prog 50 #[.agg #[.float .f64 b_a0_0, .float .f64 b_a0_1], .agg #[.float .f64 b_a1_0, .float .f64 b_a1_1]] w fun e w' => ∃ b_r1 b_r2 : Nat, e = .returned (.tuple #[.agg #[.float .f64 b_r1, .float .f64 b_r2], .bool r3]) ∧ cn .f64 b_r1 = r1 ∧ cn .f64 b_r2 = r2 ∧ Below w.heap.size w w' := by
 have hu34 := Try.underlying34
 have HB := Aside0.mk (Below.refl w.heap.size w)
 have H : ((some (fop .add .f64 (fop .mul .f64 a1_0 a1_0) (fop .mul .f64 a1_1 a1_1) : Fl)).bind fun ft138 => ((impl_finite.f k (([a0_0, a0_1, a1_0, a1_1, ft138] : List (Fl)))).bind fun t142 => (if t142 = true then (impl_CxOver.j0 k ft138 (fcmp .eql .f64 ft138 (cn .f64 0)) a0_0 a0_1 a1_0 a1_1) else (impl_CxOver.j0 k ft138 true a0_0 a0_1 a1_0 a1_1)))) = some (r1, r2, r3) := h
 clear h
 obtain ⟨ft136, hft136⟩ : ∃ y_ : Fl, y_ = (fop .mul .f64 a1_0 a1_0) := ⟨_, rfl⟩
 replace H : ((some (fop .add .f64 ft136 (fop .mul .f64 a1_1 a1_1) : Fl)).bind fun ft138 => ((impl_finite.f k (([a0_0, a0_1, a1_0, a1_1, ft138] : List (Fl)))).bind fun t142 => (if t142 = true then (impl_CxOver.j0 k ft138 (fcmp .eql .f64 ft138 (cn .f64 0)) a0_0 a0_1 a1_0 a1_1) else (impl_CxOver.j0 k ft138 true a0_0 a0_1 a1_0 a1_1)))) = some (r1, r2, r3) := by first | (rw [hft136]; with_reducible exact H) | (have H2_ := (Option.bind_some _ _).symm.trans H; rw [hft136]; with_reducible exact H2_) | (have H2_ := (Option.bind_some _ _).symm.trans H; with_reducible exact H2_) | with_reducible exact H | (rw [hft136]; exact H) | exact H
 have Nft136 := Aside0.mk hft136
 clear hft136
 obtain ⟨ft137, hft137⟩ : ∃ y_ : Fl, y_ = (fop .mul .f64 a1_1 a1_1) := ⟨_, rfl⟩
 replace H : ((some (fop .add .f64 ft136 ft137 : Fl)).bind fun ft138 => ((impl_finite.f k (([a0_0, a0_1, a1_0, a1_1, ft138] : List (Fl)))).bind fun t142 => (if t142 = true then (impl_CxOver.j0 k ft138 (fcmp .eql .f64 ft138 (cn .f64 0)) a0_0 a0_1 a1_0 a1_1) else (impl_CxOver.j0 k ft138 true a0_0 a0_1 a1_0 a1_1)))) = some (r1, r2, r3) := by first | (rw [hft137]; with_reducible exact H) | (have H2_ := (Option.bind_some _ _).symm.trans H; rw [hft137]; with_reducible exact H2_) | (have H2_ := (Option.bind_some _ _).symm.trans H; with_reducible exact H2_) | with_reducible exact H | (rw [hft137]; exact H) | exact H
 have Nft137 := Aside0.mk hft137
 clear hft137
 obtain ⟨ft138, hft138⟩ : ∃ y_ : Fl, y_ = (fop .add .f64 ft136 ft137) := ⟨_, rfl⟩
 replace H : ((impl_finite.f k (([a0_0, a0_1, a1_0, a1_1, ft138] : List (Fl)))).bind fun t142 => (if t142 = true then (impl_CxOver.j0 k ft138 (fcmp .eql .f64 ft138 (cn .f64 0)) a0_0 a0_1 a1_0 a1_1) else (impl_CxOver.j0 k ft138 true a0_0 a0_1 a1_0 a1_1))) = some (r1, r2, r3) := by first | (rw [hft138]; with_reducible exact H) | (have H2_ := (Option.bind_some _ _).symm.trans H; rw [hft138]; with_reducible exact H2_) | (have H2_ := (Option.bind_some _ _).symm.trans H; with_reducible exact H2_) | with_reducible exact H | (rw [hft138]; exact H) | exact H
 have Nft138 := Aside0.mk hft138
 clear hft138
 have HC3 := Aside0.mk H
 clear H
 go_enter Try.func50, Try.ntmps50
 go_upto_region 2 with (first | ((with_reducible refine gate_dst (N := 2) rfl ?_); refine box_event ?hg (N := 2) ?hd (cs := #[.float .f64 b_a0_0, .float .f64 b_a0_1]) (t := 34) ?hr ?_; (case hd => rfl); (case hg => rfl); (case hr => first | (go_simp; done) | (go_simp; rfl)); intro gb133 hg w4 hbox hb; have n0_ := Aside0.mk (below_step (by exact HB.out) hb); have n1_ := Aside0.mk (hbox); have n2_ := Aside0.mk ((by rw [hg]; exact (below_size (by exact HB.out)) : w.heap.size ≤ gb133)); have n3_ := Aside0.mk ((n2_.out)); clear HB; have HB := n0_; have BK133 := n1_; have GW133 := n2_; have GE133 := n3_; clear n0_ n1_ n2_ n3_; clear hb hbox hg) | ((with_reducible refine gate_dst (N := 3) rfl ?_); refine box_event ?hg (N := 3) ?hd (cs := #[.float .f64 b_a1_0, .float .f64 b_a1_1]) (t := 34) ?hr ?_; (case hd => rfl); (case hg => rfl); (case hr => first | (go_simp; done) | (go_simp; rfl)); intro gb134 hg w5 hbox hb; have n0_ := Aside0.mk (blk_below (g := gb133) (o := .cells #[.float .f64 b_a0_0, .float .f64 b_a0_1] 34 (0, 0)) (by exact BK133.out) hb); have n1_ := Aside0.mk (below_step (by exact HB.out) hb); have n2_ := Aside0.mk (hbox); have n3_ := Aside0.mk ((by rw [hg]; exact (below_size (by exact HB.out)) : w.heap.size ≤ gb134)); have n4_ := Aside0.mk ((n3_.out)); have n5_ := Aside0.mk ((by rw [hg]; exact Nat.ne_of_lt (blk_lt (g := gb133) (o := .cells #[.float .f64 b_a0_0, .float .f64 b_a0_1] 34 (0, 0)) (by exact BK133.out)) : gb133 ≠ gb134)); have n6_ := Aside0.mk ((n5_.out.symm)); clear BK133; clear HB; have BK133 := n0_; have HB := n1_; have BK134 := n2_; have GW134 := n3_; have GE134 := n4_; have NB133_134 := n5_; have NB134_133 := n6_; clear n0_ n1_ n2_ n3_ n4_ n5_ n6_; clear hb hbox hg) | ((with_reducible refine gate_dst (N := 4) rfl ?_); refine box_event ?hg (N := 4) ?hd (cs := #[.float .f64 0, .float .f64 0]) (t := 34) ?hr ?_; (case hd => rfl); (case hg => rfl); (case hr => first | (go_simp; done) | (go_simp; rfl)); intro gb135 hg w6 hbox hb; have n0_ := Aside0.mk (blk_below (g := gb133) (o := .cells #[.float .f64 b_a0_0, .float .f64 b_a0_1] 34 (0, 0)) (by exact BK133.out) hb); have n1_ := Aside0.mk (blk_below (g := gb134) (o := .cells #[.float .f64 b_a1_0, .float .f64 b_a1_1] 34 (0, 0)) (by exact BK134.out) hb); have n2_ := Aside0.mk (below_step (by exact HB.out) hb); have n3_ := Aside0.mk (hbox); have n4_ := Aside0.mk ((by rw [hg]; exact (below_size (by exact HB.out)) : w.heap.size ≤ gb135)); have n5_ := Aside0.mk ((n4_.out)); have n6_ := Aside0.mk ((by rw [hg]; exact Nat.ne_of_lt (blk_lt (g := gb133) (o := .cells #[.float .f64 b_a0_0, .float .f64 b_a0_1] 34 (0, 0)) (by exact BK133.out)) : gb133 ≠ gb135)); have n7_ := Aside0.mk ((n6_.out.symm)); have n8_ := Aside0.mk ((by rw [hg]; exact Nat.ne_of_lt (blk_lt (g := gb134) (o := .cells #[.float .f64 b_a1_0, .float .f64 b_a1_1] 34 (0, 0)) (by exact BK134.out)) : gb134 ≠ gb135)); have n9_ := Aside0.mk ((n8_.out.symm)); clear BK133; clear BK134; clear HB; have BK133 := n0_; have BK134 := n1_; have HB := n2_; have BK135 := n3_; have GW135 := n4_; have GE135 := n5_; have NB133_135 := n6_; have NB135_133 := n7_; have NB134_135 := n8_; have NB135_134 := n9_; clear n0_ n1_ n2_ n3_ n4_ n5_ n6_ n7_ n8_ n9_; clear hb hbox hg; have hnb7 := NB134_133.out; have hnc7 := NB133_134.out; have hnb8 := NB134_135.out; have hnc8 := NB135_134.out; have hcz9_0 : w6.cell? ⟨gb134, 0, none⟩ = some (.float .f64 b_a1_0) := (blk_cell BK134.out 0).trans rfl; have hcz9_1 : w6.cell? ⟨gb134, 1, none⟩ = some (.float .f64 b_a1_1) := (blk_cell BK134.out 1).trans rfl; have hfz9_0 := blk_frozen BK134.out 0; have hfz9_1 := blk_frozen BK134.out 1) | ((with_reducible refine gate_dst (N := 12) rfl ?_); refine fop_event rfl (N := 12) rfl (op := .mul) (by simp) rfl .f64 b_a1_0 b_a1_0 a1_0 a1_0 rfl rfl hF_a1_0 hF_a1_0 ?_; intro b_ft136 nf_ hF_; replace hF_ := hF_.trans Nft136.out.symm; have hF_ft136 := hF_; clear hF_) | ((with_reducible refine gate_dst (N := 17) rfl ?_); refine fop_event rfl (N := 17) rfl (op := .mul) (by simp) rfl .f64 b_a1_1 b_a1_1 a1_1 a1_1 rfl rfl hF_a1_1 hF_a1_1 ?_; intro b_ft137 nf_ hF_; replace hF_ := hF_.trans Nft137.out.symm; have hF_ft137 := hF_; clear hF_) | ((with_reducible refine gate_dst (N := 18) rfl ?_); refine fop_event rfl (N := 18) rfl (op := .add) (by simp) rfl .f64 b_ft136 b_ft137 ft136 ft137 rfl rfl hF_ft136 hF_ft137 ?_; intro b_ft138 nf_ hF_; replace hF_ := hF_.trans Nft138.out.symm; have hF_ft138 := hF_; clear hF_))
 (try simp only [Act.put, qa_, qb_, qc_])
 go_cut [34] (fun v34 wc => ∃ (kq : Nat) (x34_2 : Bool), v34 = .bool x34_2 ∧ Aside0 (impl_CxOver.j0 kq ft138 x34_2 a0_0 a0_1 a1_0 a1_1 = some (r1, r2, r3)) ∧ Aside0 (kq ≤ k) ∧ Aside0 (wc.heap[gb133]? = some (.cells #[.float .f64 b_a0_0, .float .f64 b_a0_1] 34 (0, 0))) ∧ Aside0 (wc.heap[gb134]? = some (.cells #[.float .f64 b_a1_0, .float .f64 b_a1_1] 34 (0, 0))) ∧ Aside0 (wc.heap[gb135]? = some (.cells #[.float .f64 0, .float .f64 0] 34 (0, 0))) ∧ Aside0 (Below w.heap.size w wc))
 case first =>
  have H := HC3.out
  clear HC3
  obtain ⟨y139, hy139⟩ : ∃ y_ : List (Fl), y_ = (([a0_0, a0_1, a1_0, a1_1, ft138] : List (Fl))) := ⟨_, rfl⟩
  replace H : ((impl_finite.f k y139).bind fun t142 => (if t142 = true then (impl_CxOver.j0 k ft138 (fcmp .eql .f64 ft138 (cn .f64 0)) a0_0 a0_1 a1_0 a1_1) else (impl_CxOver.j0 k ft138 true a0_0 a0_1 a1_0 a1_1))) = some (r1, r2, r3) := by first | (rw [hy139]; with_reducible exact H) | (have H2_ := (Option.bind_some _ _).symm.trans H; rw [hy139]; with_reducible exact H2_) | (have H2_ := (Option.bind_some _ _).symm.trans H; with_reducible exact H2_) | with_reducible exact H | (rw [hy139]; exact H) | exact H
  have Ny139 := Aside0.mk hy139
  clear hy139
  replace H := Option.bind_eq_some_iff.mp H
  obtain ⟨t142, A100, H⟩ := H
  replace H : (if t142 = true then (impl_CxOver.j0 k ft138 (fcmp .eql .f64 ft138 (cn .f64 0)) a0_0 a0_1 a1_0 a1_1) else (impl_CxOver.j0 k ft138 true a0_0 a0_1 a1_0 a1_1)) = some (r1, r2, r3) := H
  have A10 := Aside0.mk A100
  clear A100
  by_cases c11 : t142 = true
  ·subst c11
   have H1 : (impl_CxOver.j0 k ft138 (fcmp .eql .f64 ft138 (cn .f64 0)) a0_0 a0_1 a1_0 a1_1) = some (r1, r2, r3) := by rw [if_pos rfl] at H; exact H
   clear H
   have H := H1
   clear H1
   have H' := Aside0.mk H
   clear H
   have hnb12 := NB133_134.out
   have hnc12 := NB134_133.out
   have hnb13 := NB133_135.out
   have hnc13 := NB135_133.out
   have hcz14_0 : w6.cell? ⟨gb133, 0, none⟩ = some (.float .f64 b_a0_0) := (blk_cell BK133.out 0).trans rfl
   have hcz14_1 : w6.cell? ⟨gb133, 1, none⟩ = some (.float .f64 b_a0_1) := (blk_cell BK133.out 1).trans rfl
   have hfz14_0 := blk_frozen BK133.out 0
   have hfz14_1 := blk_frozen BK133.out 1
   have hnb15 := NB134_135.out
   have hnc15 := NB135_134.out
   have hcz16_0 : w6.cell? ⟨gb134, 0, none⟩ = some (.float .f64 b_a1_0) := (blk_cell BK134.out 0).trans rfl
   have hcz16_1 : w6.cell? ⟨gb134, 1, none⟩ = some (.float .f64 b_a1_1) := (blk_cell BK134.out 1).trans rfl
   have hfz16_0 := blk_frozen BK134.out 0
   have hfz16_1 := blk_frozen BK134.out 1
   go_wp2_with (first | ((with_reducible refine gate_dst (N := 28) rfl ?_); refine Kd.R_lit (Kd.fl .f64) _ 23 ?hg (N := 28) ?hd (xs := ([a0_0, a0_1, a1_0, a1_1, ft138] : List (Fl))) (inner := [.float .f64 b_a0_0, .float .f64 b_a0_1, .float .f64 b_a1_0, .float .f64 b_a1_1, .float .f64 b_ft138]) (ok := fun _ => True) (okp := fun _ => True) ?hr ?hp (fun _ hk => hk) trivial (Below.refl _ _) (Nat.le_refl _) (by simp) ?_; (case hd => rfl); (case hg => rfl); (case hr => first | (go_simp; done) | (go_simp; rfl)); (case hp => exact (Reps.one (show Kd.M (Kd.fl .f64) _ _ _ a0_0 [.float .f64 b_a0_0] from (Kd.M_fl hF_a0_0)) (Reps.one (show Kd.M (Kd.fl .f64) _ _ _ a0_1 [.float .f64 b_a0_1] from (Kd.M_fl hF_a0_1)) (Reps.one (show Kd.M (Kd.fl .f64) _ _ _ a1_0 [.float .f64 b_a1_0] from (Kd.M_fl hF_a1_0)) (Reps.one (show Kd.M (Kd.fl .f64) _ _ _ a1_1 [.float .f64 b_a1_1] from (Kd.M_fl hF_a1_1)) (Reps.one (show Kd.M (Kd.fl .f64) _ _ _ ft138 [.float .f64 b_ft138] from (Kd.M_fl hF_ft138)) (Reps.none _ _))))))); intro v140 w17 ho18 hb hg_ hnew_; clear hg_ hnew_; (first | rw [← Ny139.out] at ho18 | (simp only [Int.reduceToNat] at ho18; rw [← Ny139.out] at ho18)); have n0_ := Aside0.mk (Kd.R_lower ho18 (below_size (by repeat (first | (with_reducible first | exact HB.out | apply below_alloc | apply pw_below_drewN | apply below_drew1) | exact HB.out)))); have n1_ := Aside0.mk (blk_below (g := gb133) (o := .cells #[.float .f64 b_a0_0, .float .f64 b_a0_1] 34 (0, 0)) (by (with_reducible repeat (first | refine blk_drewN ?_ _ | refine blk_drew ?_ | refine blk_alloc ?_ _)); exact BK133.out) hb); have n2_ := Aside0.mk (blk_below (g := gb134) (o := .cells #[.float .f64 b_a1_0, .float .f64 b_a1_1] 34 (0, 0)) (by (with_reducible repeat (first | refine blk_drewN ?_ _ | refine blk_drew ?_ | refine blk_alloc ?_ _)); exact BK134.out) hb); have n3_ := Aside0.mk (blk_below (g := gb135) (o := .cells #[.float .f64 0, .float .f64 0] 34 (0, 0)) (by (with_reducible repeat (first | refine blk_drewN ?_ _ | refine blk_drew ?_ | refine blk_alloc ?_ _)); exact BK135.out) hb); have n4_ := Aside0.mk (below_step (by repeat (first | (with_reducible first | exact HB.out | apply below_alloc | apply pw_below_drewN | apply below_drew1) | exact HB.out)) hb); clear BK133; clear BK134; clear BK135; clear HB; have HO141 := n0_; have BK133 := n1_; have BK134 := n2_; have BK135 := n3_; have HB := n4_; clear n0_ n1_ n2_ n3_ n4_; clear hb ho18; obtain ⟨Ao19, co19, eo19⟩ := Kd.R_slice HO141.out; subst eo19) | ((with_reducible refine gate_callee (f := 81) rfl ?_); refine goesL_ (some 29) rfl rfl Try.func81 (by kernel_rfl) rfl #[.slice Ao19 y139.length co19] rfl (by (try simp only [List.map_toArray, List.map_cons, List.map_nil]); first | done | rfl | (simp only [List.length_drop, List.length_take]; rfl)) ?_; (with_reducible refine (impl_finite.calls k _ _ y139 true _ ?side1 ?side2 A10.out).mono ?_); (case side1 => repeat (first | exact (Kd.R_reads' HO141.out).2.2 | (with_reducible refine Kd.C_alloc ?_ _) | (with_reducible refine Kd.C_drewN ?_ _) | (with_reducible refine Kd.C_drew ?_))); (case side2 => exact (Kd.R_reads' HO141.out).2.1); rintro e w' ⟨rfl, ⟨nd, rfl⟩⟩; refine ⟨_, rfl, ?_⟩))
   go_meet
   case rel => exact ⟨_, ((fcmp .eql .f64 ft138 (cn .f64 0))), (by first | rfl | (simp; done) | (simp [*]; done)), H', ⟨by first | omega | exact Nat.le_refl _⟩, ⟨by (with_reducible repeat (first | refine blk_drewN ?_ _ | refine blk_drew ?_ | refine blk_alloc ?_ _)); exact BK133.out⟩, ⟨by (with_reducible repeat (first | refine blk_drewN ?_ _ | refine blk_drew ?_ | refine blk_alloc ?_ _)); exact BK134.out⟩, ⟨by (with_reducible repeat (first | refine blk_drewN ?_ _ | refine blk_drew ?_ | refine blk_alloc ?_ _)); exact BK135.out⟩, ⟨by repeat (first | (with_reducible first | exact HB.out | apply below_alloc | apply pw_below_drewN | apply below_drew1) | exact HB.out)⟩⟩
  ·replace c11 := Bool.eq_false_iff.mpr c11
   subst c11
   have H1 : (impl_CxOver.j0 k ft138 true a0_0 a0_1 a1_0 a1_1) = some (r1, r2, r3) := by rw [if_neg (show ¬ (false = true) by decide)] at H; exact H
   clear H
   have H := H1
   clear H1
   have H' := Aside0.mk H
   clear H
   have hnb20 := NB133_134.out
   have hnc20 := NB134_133.out
   have hnb21 := NB133_135.out
   have hnc21 := NB135_133.out
   have hcz22_0 : w6.cell? ⟨gb133, 0, none⟩ = some (.float .f64 b_a0_0) := (blk_cell BK133.out 0).trans rfl
   have hcz22_1 : w6.cell? ⟨gb133, 1, none⟩ = some (.float .f64 b_a0_1) := (blk_cell BK133.out 1).trans rfl
   have hfz22_0 := blk_frozen BK133.out 0
   have hfz22_1 := blk_frozen BK133.out 1
   have hnb23 := NB134_135.out
   have hnc23 := NB135_134.out
   have hcz24_0 : w6.cell? ⟨gb134, 0, none⟩ = some (.float .f64 b_a1_0) := (blk_cell BK134.out 0).trans rfl
   have hcz24_1 : w6.cell? ⟨gb134, 1, none⟩ = some (.float .f64 b_a1_1) := (blk_cell BK134.out 1).trans rfl
   have hfz24_0 := blk_frozen BK134.out 0
   have hfz24_1 := blk_frozen BK134.out 1
   go_wp2_with (first | ((with_reducible refine gate_dst (N := 28) rfl ?_); refine Kd.R_lit (Kd.fl .f64) _ 23 ?hg (N := 28) ?hd (xs := ([a0_0, a0_1, a1_0, a1_1, ft138] : List (Fl))) (inner := [.float .f64 b_a0_0, .float .f64 b_a0_1, .float .f64 b_a1_0, .float .f64 b_a1_1, .float .f64 b_ft138]) (ok := fun _ => True) (okp := fun _ => True) ?hr ?hp (fun _ hk => hk) trivial (Below.refl _ _) (Nat.le_refl _) (by simp) ?_; (case hd => rfl); (case hg => rfl); (case hr => first | (go_simp; done) | (go_simp; rfl)); (case hp => exact (Reps.one (show Kd.M (Kd.fl .f64) _ _ _ a0_0 [.float .f64 b_a0_0] from (Kd.M_fl hF_a0_0)) (Reps.one (show Kd.M (Kd.fl .f64) _ _ _ a0_1 [.float .f64 b_a0_1] from (Kd.M_fl hF_a0_1)) (Reps.one (show Kd.M (Kd.fl .f64) _ _ _ a1_0 [.float .f64 b_a1_0] from (Kd.M_fl hF_a1_0)) (Reps.one (show Kd.M (Kd.fl .f64) _ _ _ a1_1 [.float .f64 b_a1_1] from (Kd.M_fl hF_a1_1)) (Reps.one (show Kd.M (Kd.fl .f64) _ _ _ ft138 [.float .f64 b_ft138] from (Kd.M_fl hF_ft138)) (Reps.none _ _))))))); intro v140 w25 ho26 hb hg_ hnew_; clear hg_ hnew_; (first | rw [← Ny139.out] at ho26 | (simp only [Int.reduceToNat] at ho26; rw [← Ny139.out] at ho26)); have n0_ := Aside0.mk (Kd.R_lower ho26 (below_size (by repeat (first | (with_reducible first | exact HB.out | apply below_alloc | apply pw_below_drewN | apply below_drew1) | exact HB.out)))); have n1_ := Aside0.mk (blk_below (g := gb133) (o := .cells #[.float .f64 b_a0_0, .float .f64 b_a0_1] 34 (0, 0)) (by (with_reducible repeat (first | refine blk_drewN ?_ _ | refine blk_drew ?_ | refine blk_alloc ?_ _)); exact BK133.out) hb); have n2_ := Aside0.mk (blk_below (g := gb134) (o := .cells #[.float .f64 b_a1_0, .float .f64 b_a1_1] 34 (0, 0)) (by (with_reducible repeat (first | refine blk_drewN ?_ _ | refine blk_drew ?_ | refine blk_alloc ?_ _)); exact BK134.out) hb); have n3_ := Aside0.mk (blk_below (g := gb135) (o := .cells #[.float .f64 0, .float .f64 0] 34 (0, 0)) (by (with_reducible repeat (first | refine blk_drewN ?_ _ | refine blk_drew ?_ | refine blk_alloc ?_ _)); exact BK135.out) hb); have n4_ := Aside0.mk (below_step (by repeat (first | (with_reducible first | exact HB.out | apply below_alloc | apply pw_below_drewN | apply below_drew1) | exact HB.out)) hb); clear BK133; clear BK134; clear BK135; clear HB; have HO141 := n0_; have BK133 := n1_; have BK134 := n2_; have BK135 := n3_; have HB := n4_; clear n0_ n1_ n2_ n3_ n4_; clear hb ho26; obtain ⟨Ao27, co27, eo27⟩ := Kd.R_slice HO141.out; subst eo27) | ((with_reducible refine gate_callee (f := 81) rfl ?_); refine goesL_ (some 29) rfl rfl Try.func81 (by kernel_rfl) rfl #[.slice Ao27 y139.length co27] rfl (by (try simp only [List.map_toArray, List.map_cons, List.map_nil]); first | done | rfl | (simp only [List.length_drop, List.length_take]; rfl)) ?_; (with_reducible refine (impl_finite.calls k _ _ y139 false _ ?side1 ?side2 A10.out).mono ?_); (case side1 => repeat (first | exact (Kd.R_reads' HO141.out).2.2 | (with_reducible refine Kd.C_alloc ?_ _) | (with_reducible refine Kd.C_drewN ?_ _) | (with_reducible refine Kd.C_drew ?_))); (case side2 => exact (Kd.R_reads' HO141.out).2.1); rintro e w' ⟨rfl, ⟨nd, rfl⟩⟩; refine ⟨_, rfl, ?_⟩))
   go_meet
   case rel => exact ⟨_, (true), (by first | rfl | (simp; done) | (simp [*]; done)), H', ⟨by first | omega | exact Nat.le_refl _⟩, ⟨by (with_reducible repeat (first | refine blk_drewN ?_ _ | refine blk_drew ?_ | refine blk_alloc ?_ _)); exact BK133.out⟩, ⟨by (with_reducible repeat (first | refine blk_drewN ?_ _ | refine blk_drew ?_ | refine blk_alloc ?_ _)); exact BK134.out⟩, ⟨by (with_reducible repeat (first | refine blk_drewN ?_ _ | refine blk_drew ?_ | refine blk_alloc ?_ _)); exact BK135.out⟩, ⟨by repeat (first | (with_reducible first | exact HB.out | apply below_alloc | apply pw_below_drewN | apply below_drew1) | exact HB.out)⟩⟩
 case rest =>
  clear HC3
  try clear c1
  try clear c2
  try clear p2
  try clear c5
  try clear c6
  try clear c7
  try clear c8
  try clear c11
  try clear c12
  try clear c13
  try clear c15
  try clear c20
  try clear c21
  try clear c23
  try clear hcz14_0
  try clear hcz14_1
  try clear hcz16_0
  try clear hcz16_1
  try clear hcz22_0
  try clear hcz22_1
  try clear hcz24_0
  try clear hcz24_1
  try clear hcz9_0
  try clear hcz9_1
  try clear hfz14_0
  try clear hfz14_1
  try clear hfz16_0
  try clear hfz16_1
  try clear hfz22_0
  try clear hfz22_1
  try clear hfz24_0
  try clear hfz24_1
  try clear hfz9_0
  try clear hfz9_1
  obtain ⟨kq, x34_2, rfl, HA, HJ2, BK133, BK134, BK135, HB⟩ := hcut
  cases kq with
  | zero => exact absurd HA.out (by simp [impl_CxOver.j0])
  | succ kj2 =>
   have H := HA.out
   clear HA
   simp only [impl_CxOver.j0] at H
   by_cases c28 : x34_2 = true
   ·subst c28
    have H1 : (some ((cn .f64 0), (cn .f64 0), false)) = some (r1, r2, r3) := by rw [if_pos rfl] at H; exact H
    clear H
    have H := H1
    clear H1
    simp only [Option.some.injEq, Prod.mk.injEq] at H
    obtain ⟨rfl, rfl, rfl⟩ := H
    have hnb29 := NB135_133.out
    have hnc29 := NB133_135.out
    have hnb30 := NB135_134.out
    have hnc30 := NB134_135.out
    have hcz31_0 : wc.cell? ⟨gb135, 0, none⟩ = some (.float .f64 0) := (blk_cell BK135.out 0).trans rfl
    have hcz31_1 : wc.cell? ⟨gb135, 1, none⟩ = some (.float .f64 0) := (blk_cell BK135.out 1).trans rfl
    have hfz31_0 := blk_frozen BK135.out 0
    have hfz31_1 := blk_frozen BK135.out 1
    go_wp2
    refine bodyPost_ret (results_ct rfl _ _ gb135 34 #[.float .f64 0, .float .f64 0] (0, 0) _ rfl (by (with_reducible repeat (first | refine blk_drewN ?_ _ | refine blk_drew ?_ | refine blk_alloc ?_ _)); refine blk_put (cs := #[.float .f64 0, .float .f64 0]) ?_ 1 _ rfl; (with_reducible repeat (first | refine blk_drewN ?_ _ | refine blk_drew ?_ | refine blk_alloc ?_ _)); refine blk_put (cs := #[.float .f64 0, .float .f64 0]) ?_ 0 _ rfl; (with_reducible repeat (first | refine blk_drewN ?_ _ | refine blk_drew ?_ | refine blk_alloc ?_ _)); exact BK135.out) Try.underlying34 rfl (by kernel_rfl)) rfl ?_
    exact ⟨0, 0, by first | rfl | (simp [errW_none, errW_some] <;> rfl) | (simp [*, errW_none, errW_some] <;> rfl), rfl, rfl, by repeat (first | (with_reducible first | exact HB.out | apply below_alloc | apply pw_below_drewN | apply below_drew1 | refine below_set ?_ GE135.out) | exact HB.out)⟩
   ·replace c28 := Bool.eq_false_iff.mpr c28
    subst c28
    have H1 : ((impl_CxTimes.f a0_0 a0_1 a1_0 (fneg .f64 a1_1)).bind fun bt144 => (some ((fop .quo .f64 bt144.1 ft138), (fop .quo .f64 bt144.2 ft138), true))) = some (r1, r2, r3) := by rw [if_neg (show ¬ (false = true) by decide)] at H; exact H
    clear H
    have H := H1
    clear H1
    obtain ⟨ft143, hft143⟩ : ∃ y_ : Fl, y_ = (fneg .f64 a1_1) := ⟨_, rfl⟩
    replace H : ((impl_CxTimes.f a0_0 a0_1 a1_0 ft143).bind fun bt144 => (some ((fop .quo .f64 bt144.1 ft138), (fop .quo .f64 bt144.2 ft138), true))) = some (r1, r2, r3) := by first | (rw [hft143]; with_reducible exact H) | (have H2_ := (Option.bind_some _ _).symm.trans H; rw [hft143]; with_reducible exact H2_) | (have H2_ := (Option.bind_some _ _).symm.trans H; with_reducible exact H2_) | with_reducible exact H | (rw [hft143]; exact H) | exact H
    have Nft143 := Aside0.mk hft143
    clear hft143
    replace H := Option.bind_eq_some_iff.mp H
    obtain ⟨⟨t144, t145⟩, A320, H⟩ := H
    replace H : (some ((fop .quo .f64 t144 ft138), (fop .quo .f64 t145 ft138), true)) = some (r1, r2, r3) := H
    have A32 := Aside0.mk A320
    clear A320
    obtain ⟨ft147, hft147⟩ : ∃ y_ : Fl, y_ = (fop .quo .f64 t144 ft138) := ⟨_, rfl⟩
    replace H : (some (ft147, (fop .quo .f64 t145 ft138), true)) = some (r1, r2, r3) := by first | (rw [hft147]; with_reducible exact H) | (have H2_ := (Option.bind_some _ _).symm.trans H; rw [hft147]; with_reducible exact H2_) | (have H2_ := (Option.bind_some _ _).symm.trans H; with_reducible exact H2_) | with_reducible exact H | (rw [hft147]; exact H) | exact H
    have Nft147 := Aside0.mk hft147
    clear hft147
    obtain ⟨ft148, hft148⟩ : ∃ y_ : Fl, y_ = (fop .quo .f64 t145 ft138) := ⟨_, rfl⟩
    replace H : (some (ft147, ft148, true)) = some (r1, r2, r3) := by first | (rw [hft148]; with_reducible exact H) | (have H2_ := (Option.bind_some _ _).symm.trans H; rw [hft148]; with_reducible exact H2_) | (have H2_ := (Option.bind_some _ _).symm.trans H; with_reducible exact H2_) | with_reducible exact H | (rw [hft148]; exact H) | exact H
    have Nft148 := Aside0.mk hft148
    clear hft148
    simp only [Option.some.injEq, Prod.mk.injEq] at H
    obtain ⟨rfl, rfl, rfl⟩ := H
    have hnb33 := NB133_134.out
    have hnc33 := NB134_133.out
    have hnb34 := NB133_135.out
    have hnc34 := NB135_133.out
    have hcz35_0 : wc.cell? ⟨gb133, 0, none⟩ = some (.float .f64 b_a0_0) := (blk_cell BK133.out 0).trans rfl
    have hcz35_1 : wc.cell? ⟨gb133, 1, none⟩ = some (.float .f64 b_a0_1) := (blk_cell BK133.out 1).trans rfl
    have hfz35_0 := blk_frozen BK133.out 0
    have hfz35_1 := blk_frozen BK133.out 1
    have hnb36 := NB134_135.out
    have hnc36 := NB135_134.out
    have hcz37_0 : wc.cell? ⟨gb134, 0, none⟩ = some (.float .f64 b_a1_0) := (blk_cell BK134.out 0).trans rfl
    have hcz37_1 : wc.cell? ⟨gb134, 1, none⟩ = some (.float .f64 b_a1_1) := (blk_cell BK134.out 1).trans rfl
    have hfz37_0 := blk_frozen BK134.out 0
    have hfz37_1 := blk_frozen BK134.out 1
    go_wp2_with (first | ((with_reducible refine gate_dst (N := 41) rfl ?_); refine fneg_event rfl (N := 41) rfl rfl .f64 b_a1_1 a1_1 rfl hF_a1_1 ?_; intro b_ft143 nf_ hF_; replace hF_ := hF_.trans Nft143.out.symm; have hF_ft143 := hF_; clear hF_) | ((with_reducible refine gate_callee (f := 51) rfl ?_); refine goesL_ (some 43) rfl rfl Try.func51 (by kernel_rfl) rfl #[.agg #[.float .f64 b_a0_0, .float .f64 b_a0_1], .agg #[.float .f64 b_a1_0, .float .f64 b_ft143]] rfl (by (try simp only [List.map_toArray, List.map_cons, List.map_nil]); first | done | rfl | (simp only [List.length_drop, List.length_take]; rfl)) ?_; (with_reducible refine (impl_CxTimes.calls b_a0_0 a0_0 b_a0_1 a0_1 b_a1_0 a1_0 b_ft143 ft143 t144 t145 _ ?side1 ?side2 ?side3 ?side4 A32.out).mono ?_); (case side1 => exact hF_a0_0); (case side2 => exact hF_a0_1); (case side3 => exact hF_a1_0); (case side4 => exact hF_ft143); rintro e w38 ⟨b_t144, b_t145, rfl, hF_t144, hF_t145, hb⟩; refine ⟨_, rfl, ?_⟩; have n0_ := Aside0.mk (blk_below (g := gb133) (o := .cells #[.float .f64 b_a0_0, .float .f64 b_a0_1] 34 (0, 0)) (by (with_reducible repeat (first | refine blk_drewN ?_ _ | refine blk_drew ?_ | refine blk_alloc ?_ _)); exact BK133.out) hb); have n1_ := Aside0.mk (blk_below (g := gb134) (o := .cells #[.float .f64 b_a1_0, .float .f64 b_a1_1] 34 (0, 0)) (by (with_reducible repeat (first | refine blk_drewN ?_ _ | refine blk_drew ?_ | refine blk_alloc ?_ _)); exact BK134.out) hb); have n2_ := Aside0.mk (blk_below (g := gb135) (o := .cells #[.float .f64 0, .float .f64 0] 34 (0, 0)) (by (with_reducible repeat (first | refine blk_drewN ?_ _ | refine blk_drew ?_ | refine blk_alloc ?_ _)); exact BK135.out) hb); have n3_ := Aside0.mk (below_step (by repeat (first | (with_reducible first | exact HB.out | apply below_alloc | apply pw_below_drewN | apply below_drew1) | exact HB.out)) hb); clear BK133; clear BK134; clear BK135; clear HB; have BK133 := n0_; have BK134 := n1_; have BK135 := n2_; have HB := n3_; clear n0_ n1_ n2_ n3_; (try clear hb); (try clear hb2); (try clear hk); (try clear hi)) | ((with_reducible refine gate_dst (N := 7) rfl ?_); refine box_event ?hg (N := 7) ?hd (cs := #[.float .f64 0, .float .f64 0]) (t := 34) ?hr ?_; (case hd => rfl); (case hg => rfl); (case hr => first | (go_simp; done) | (go_simp; rfl)); intro gb146 hg w39 hbox hb; have n0_ := Aside0.mk (blk_below (g := gb133) (o := .cells #[.float .f64 b_a0_0, .float .f64 b_a0_1] 34 (0, 0)) (by exact BK133.out) hb); have n1_ := Aside0.mk (blk_below (g := gb134) (o := .cells #[.float .f64 b_a1_0, .float .f64 b_a1_1] 34 (0, 0)) (by exact BK134.out) hb); have n2_ := Aside0.mk (blk_below (g := gb135) (o := .cells #[.float .f64 0, .float .f64 0] 34 (0, 0)) (by exact BK135.out) hb); have n3_ := Aside0.mk (below_step (by exact HB.out) hb); have n4_ := Aside0.mk (hbox); have n5_ := Aside0.mk ((by rw [hg]; exact (below_size (by exact HB.out)) : w.heap.size ≤ gb146)); have n6_ := Aside0.mk ((n5_.out)); have n7_ := Aside0.mk ((by rw [hg]; exact Nat.ne_of_lt (blk_lt (g := gb133) (o := .cells #[.float .f64 b_a0_0, .float .f64 b_a0_1] 34 (0, 0)) (by exact BK133.out)) : gb133 ≠ gb146)); have n8_ := Aside0.mk ((n7_.out.symm)); have n9_ := Aside0.mk ((by rw [hg]; exact Nat.ne_of_lt (blk_lt (g := gb134) (o := .cells #[.float .f64 b_a1_0, .float .f64 b_a1_1] 34 (0, 0)) (by exact BK134.out)) : gb134 ≠ gb146)); have n10_ := Aside0.mk ((n9_.out.symm)); have n11_ := Aside0.mk ((by rw [hg]; exact Nat.ne_of_lt (blk_lt (g := gb135) (o := .cells #[.float .f64 0, .float .f64 0] 34 (0, 0)) (by exact BK135.out)) : gb135 ≠ gb146)); have n12_ := Aside0.mk ((n11_.out.symm)); clear BK133; clear BK134; clear BK135; clear HB; have BK133 := n0_; have BK134 := n1_; have BK135 := n2_; have HB := n3_; have BK146 := n4_; have GW146 := n5_; have GE146 := n6_; have NB133_146 := n7_; have NB146_133 := n8_; have NB134_146 := n9_; have NB146_134 := n10_; have NB135_146 := n11_; have NB146_135 := n12_; clear n0_ n1_ n2_ n3_ n4_ n5_ n6_ n7_ n8_ n9_ n10_ n11_ n12_; clear hb hbox hg; have hnb40 := NB146_133.out; have hnc40 := NB133_146.out; have hnb41 := NB146_134.out; have hnc41 := NB134_146.out; have hnb42 := NB146_135.out; have hnc42 := NB135_146.out; have hcz43_0 : w39.cell? ⟨gb146, 0, none⟩ = some (.float .f64 0) := (blk_cell BK146.out 0).trans rfl; have hcz43_1 : w39.cell? ⟨gb146, 1, none⟩ = some (.float .f64 0) := (blk_cell BK146.out 1).trans rfl; have hfz43_0 := blk_frozen BK146.out 0; have hfz43_1 := blk_frozen BK146.out 1) | ((with_reducible refine gate_dst (N := 47) rfl ?_); refine fop_event rfl (N := 47) rfl (op := .quo) (by simp) rfl .f64 b_t144 b_ft138 t144 ft138 rfl rfl hF_t144 hF_ft138 ?_; intro b_ft147 nf_ hF_; replace hF_ := hF_.trans Nft147.out.symm; have hF_ft147 := hF_; clear hF_) | ((with_reducible refine gate_dst (N := 51) rfl ?_); refine fop_event rfl (N := 51) rfl (op := .quo) (by simp) rfl .f64 b_t145 b_ft138 t145 ft138 rfl rfl hF_t145 hF_ft138 ?_; intro b_ft148 nf_ hF_; replace hF_ := hF_.trans Nft148.out.symm; have hF_ft148 := hF_; clear hF_; have hcz44_0 : w39.cell? ⟨gb135, 0, none⟩ = some (.float .f64 0) := (blk_cell BK135.out 0).trans rfl; have hcz44_1 : w39.cell? ⟨gb135, 1, none⟩ = some (.float .f64 0) := (blk_cell BK135.out 1).trans rfl; have hfz44_0 := blk_frozen BK135.out 0; have hfz44_1 := blk_frozen BK135.out 1))
    refine bodyPost_ret (results_ct rfl _ _ gb135 34 #[.float .f64 b_ft147, .float .f64 b_ft148] (0, 0) _ rfl (by (with_reducible repeat (first | refine blk_drewN ?_ _ | refine blk_drew ?_ | refine blk_alloc ?_ _)); refine blk_put (cs := #[.float .f64 b_ft147, .float .f64 0]) ?_ 1 _ rfl; (with_reducible repeat (first | refine blk_drewN ?_ _ | refine blk_drew ?_ | refine blk_alloc ?_ _)); refine blk_put (cs := #[.float .f64 0, .float .f64 0]) ?_ 0 _ rfl; (with_reducible repeat (first | refine blk_drewN ?_ _ | refine blk_drew ?_ | refine blk_alloc ?_ _)); refine blk_far ?_ NB135_146.out _; (with_reducible repeat (first | refine blk_drewN ?_ _ | refine blk_drew ?_ | refine blk_alloc ?_ _)); refine blk_far ?_ NB135_146.out _; (with_reducible repeat (first | refine blk_drewN ?_ _ | refine blk_drew ?_ | refine blk_alloc ?_ _)); exact BK135.out) Try.underlying34 rfl (by kernel_rfl)) rfl ?_
    exact ⟨b_ft147, b_ft148, by first | rfl | (simp [errW_none, errW_some] <;> rfl) | (simp [*, errW_none, errW_some] <;> rfl), hF_ft147, hF_ft148, by repeat (first | (with_reducible first | exact HB.out | apply below_alloc | apply pw_below_drewN | apply below_drew1 | refine below_set ?_ GE135.out | refine below_set ?_ GE146.out) | exact HB.out)⟩

/-! ### impl_CxSame: function 52 -/
def impl_CxSame.f (a0_0 : Fl) (a0_1 : Fl) (a1_0 : Fl) (a1_1 : Fl) : Option (Bool) := if (fcmp .eql .f64 a0_0 a1_0) = true then (some (fcmp .eql .f64 a0_1 a1_1)) else (some false)
set_option maxHeartbeats 8000000 in
set_option maxRecDepth 100000 in
theorem impl_CxSame.calls (b_a0_0 : Nat) (a0_0 : Fl) (b_a0_1 : Nat) (a0_1 : Fl) (b_a1_0 : Nat) (a1_0 : Fl) (b_a1_1 : Nat) (a1_1 : Fl) (r : Bool) (w : World) (hF_a0_0 : cn .f64 b_a0_0 = a0_0) (hF_a0_1 : cn .f64 b_a0_1 = a0_1) (hF_a1_0 : cn .f64 b_a1_0 = a1_0) (hF_a1_1 : cn .f64 b_a1_1 = a1_1) (h : impl_CxSame.f a0_0 a0_1 a1_0 a1_1 = some r) :
  Calls Try.prog 52 #[.agg #[.float .f64 b_a0_0, .float .f64 b_a0_1], .agg #[.float .f64 b_a1_0, .float .f64 b_a1_1]] w fun e w' => e = .returned (.bool r) ∧ Below w.heap.size w w' := by
 have hu34 := Try.underlying34
 have HB := Aside0.mk (Below.refl w.heap.size w)
 have H : (if (fcmp .eql .f64 a0_0 a1_0) = true then (some (fcmp .eql .f64 a0_1 a1_1)) else (some false)) = some r := h
 clear h
 by_cases c3 : (fcmp .eql .f64 a0_0 a1_0) = true
 ·rw [if_pos c3] at H
  have c3b0 : (fcmp .eql .f64 a0_0 a1_0) = true := c3
  clear c3
  obtain rfl := Option.some.inj H
  go_enter Try.func52, Try.ntmps52
  go_wp2_with (first | ((with_reducible refine gate_dst (N := 2) rfl ?_); refine box_event ?hg (N := 2) ?hd (cs := #[.float .f64 b_a0_0, .float .f64 b_a0_1]) (t := 34) ?hr ?_; (case hd => rfl); (case hg => rfl); (case hr => first | (go_simp; done) | (go_simp; rfl)); intro gb149 hg w4 hbox hb; have n0_ := Aside0.mk (below_step (by exact HB.out) hb); have n1_ := Aside0.mk (hbox); have n2_ := Aside0.mk ((by rw [hg]; exact (below_size (by exact HB.out)) : w.heap.size ≤ gb149)); have n3_ := Aside0.mk ((n2_.out)); clear HB; have HB := n0_; have BK149 := n1_; have GW149 := n2_; have GE149 := n3_; clear n0_ n1_ n2_ n3_; clear hb hbox hg) | ((with_reducible refine gate_dst (N := 3) rfl ?_); refine box_event ?hg (N := 3) ?hd (cs := #[.float .f64 b_a1_0, .float .f64 b_a1_1]) (t := 34) ?hr ?_; (case hd => rfl); (case hg => rfl); (case hr => first | (go_simp; done) | (go_simp; rfl)); intro gb150 hg w5 hbox hb; have n0_ := Aside0.mk (blk_below (g := gb149) (o := .cells #[.float .f64 b_a0_0, .float .f64 b_a0_1] 34 (0, 0)) (by exact BK149.out) hb); have n1_ := Aside0.mk (below_step (by exact HB.out) hb); have n2_ := Aside0.mk (hbox); have n3_ := Aside0.mk ((by rw [hg]; exact (below_size (by exact HB.out)) : w.heap.size ≤ gb150)); have n4_ := Aside0.mk ((n3_.out)); have n5_ := Aside0.mk ((by rw [hg]; exact Nat.ne_of_lt (blk_lt (g := gb149) (o := .cells #[.float .f64 b_a0_0, .float .f64 b_a0_1] 34 (0, 0)) (by exact BK149.out)) : gb149 ≠ gb150)); have n6_ := Aside0.mk ((n5_.out.symm)); clear BK149; clear HB; have BK149 := n0_; have HB := n1_; have BK150 := n2_; have GW150 := n3_; have GE150 := n4_; have NB149_150 := n5_; have NB150_149 := n6_; clear n0_ n1_ n2_ n3_ n4_ n5_ n6_; clear hb hbox hg; have hnb6 := NB149_150.out; have hnc6 := NB150_149.out; have hcz7_0 : w5.cell? ⟨gb149, 0, none⟩ = some (.float .f64 b_a0_0) := (blk_cell BK149.out 0).trans rfl; have hcz7_1 : w5.cell? ⟨gb149, 1, none⟩ = some (.float .f64 b_a0_1) := (blk_cell BK149.out 1).trans rfl; have hfz7_0 := blk_frozen BK149.out 0; have hfz7_1 := blk_frozen BK149.out 1; have hcz8_0 : w5.cell? ⟨gb150, 0, none⟩ = some (.float .f64 b_a1_0) := (blk_cell BK150.out 0).trans rfl; have hcz8_1 : w5.cell? ⟨gb150, 1, none⟩ = some (.float .f64 b_a1_1) := (blk_cell BK150.out 1).trans rfl; have hfz8_0 := blk_frozen BK150.out 0; have hfz8_1 := blk_frozen BK150.out 1))
  go_ret
  exact ⟨by first | rfl | (simp [errW_none, errW_some] <;> rfl) | (simp [*, errW_none, errW_some] <;> rfl), by repeat (first | (with_reducible first | exact HB.out | apply below_alloc | apply pw_below_drewN | apply below_drew1) | exact HB.out)⟩
 ·rw [if_neg c3] at H
  have c3b0 : (fcmp .eql .f64 a0_0 a1_0) = false := by simpa using c3
  clear c3
  obtain rfl := Option.some.inj H
  go_enter Try.func52, Try.ntmps52
  go_wp2_with (first | ((with_reducible refine gate_dst (N := 2) rfl ?_); refine box_event ?hg (N := 2) ?hd (cs := #[.float .f64 b_a0_0, .float .f64 b_a0_1]) (t := 34) ?hr ?_; (case hd => rfl); (case hg => rfl); (case hr => first | (go_simp; done) | (go_simp; rfl)); intro gb149 hg w9 hbox hb; have n0_ := Aside0.mk (below_step (by exact HB.out) hb); have n1_ := Aside0.mk (hbox); have n2_ := Aside0.mk ((by rw [hg]; exact (below_size (by exact HB.out)) : w.heap.size ≤ gb149)); have n3_ := Aside0.mk ((n2_.out)); clear HB; have HB := n0_; have BK149 := n1_; have GW149 := n2_; have GE149 := n3_; clear n0_ n1_ n2_ n3_; clear hb hbox hg) | ((with_reducible refine gate_dst (N := 3) rfl ?_); refine box_event ?hg (N := 3) ?hd (cs := #[.float .f64 b_a1_0, .float .f64 b_a1_1]) (t := 34) ?hr ?_; (case hd => rfl); (case hg => rfl); (case hr => first | (go_simp; done) | (go_simp; rfl)); intro gb150 hg w10 hbox hb; have n0_ := Aside0.mk (blk_below (g := gb149) (o := .cells #[.float .f64 b_a0_0, .float .f64 b_a0_1] 34 (0, 0)) (by exact BK149.out) hb); have n1_ := Aside0.mk (below_step (by exact HB.out) hb); have n2_ := Aside0.mk (hbox); have n3_ := Aside0.mk ((by rw [hg]; exact (below_size (by exact HB.out)) : w.heap.size ≤ gb150)); have n4_ := Aside0.mk ((n3_.out)); have n5_ := Aside0.mk ((by rw [hg]; exact Nat.ne_of_lt (blk_lt (g := gb149) (o := .cells #[.float .f64 b_a0_0, .float .f64 b_a0_1] 34 (0, 0)) (by exact BK149.out)) : gb149 ≠ gb150)); have n6_ := Aside0.mk ((n5_.out.symm)); clear BK149; clear HB; have BK149 := n0_; have HB := n1_; have BK150 := n2_; have GW150 := n3_; have GE150 := n4_; have NB149_150 := n5_; have NB150_149 := n6_; clear n0_ n1_ n2_ n3_ n4_ n5_ n6_; clear hb hbox hg; have hnb11 := NB149_150.out; have hnc11 := NB150_149.out; have hcz12_0 : w10.cell? ⟨gb149, 0, none⟩ = some (.float .f64 b_a0_0) := (blk_cell BK149.out 0).trans rfl; have hcz12_1 : w10.cell? ⟨gb149, 1, none⟩ = some (.float .f64 b_a0_1) := (blk_cell BK149.out 1).trans rfl; have hfz12_0 := blk_frozen BK149.out 0; have hfz12_1 := blk_frozen BK149.out 1; have hcz13_0 : w10.cell? ⟨gb150, 0, none⟩ = some (.float .f64 b_a1_0) := (blk_cell BK150.out 0).trans rfl; have hcz13_1 : w10.cell? ⟨gb150, 1, none⟩ = some (.float .f64 b_a1_1) := (blk_cell BK150.out 1).trans rfl; have hfz13_0 := blk_frozen BK150.out 0; have hfz13_1 := blk_frozen BK150.out 1))
  go_ret
  exact ⟨by first | rfl | (simp [errW_none, errW_some] <;> rfl) | (simp [*, errW_none, errW_some] <;> rfl), by repeat (first | (with_reducible first | exact HB.out | apply below_alloc | apply pw_below_drewN | apply below_drew1) | exact HB.out)⟩

/-! ### impl_CxLess: function 54 -/
def impl_CxLess.f (a0_0 : Fl) (a0_1 : Fl) (a1_0 : Fl) (a1_1 : Fl) : Option (Fl × Fl) := some ((fop .sub .f64 a0_0 a1_0), (fop .sub .f64 a0_1 a1_1))
set_option maxHeartbeats 8000000 in
set_option maxRecDepth 100000 in
theorem impl_CxLess.calls (b_a0_0 : Nat) (a0_0 : Fl) (b_a0_1 : Nat) (a0_1 : Fl) (b_a1_0 : Nat) (a1_0 : Fl) (b_a1_1 : Nat) (a1_1 : Fl) (r1 : Fl) (r2 : Fl) (w : World) (hF_a0_0 : cn .f64 b_a0_0 = a0_0) (hF_a0_1 : cn .f64 b_a0_1 = a0_1) (hF_a1_0 : cn .f64 b_a1_0 = a1_0) (hF_a1_1 : cn .f64 b_a1_1 = a1_1) (h : impl_CxLess.f a0_0 a0_1 a1_0 a1_1 = some (r1, r2)) :
  Calls Try.prog 54 #[.agg #[.float .f64 b_a0_0, .float .f64 b_a0_1], .agg #[.float .f64 b_a1_0, .float .f64 b_a1_1]] w fun e w' => ∃ b_r1 b_r2 : Nat, e = .returned (.agg #[.float .f64 b_r1, .float .f64 b_r2]) ∧ cn .f64 b_r1 = r1 ∧ cn .f64 b_r2 = r2 ∧ Below w.heap.size w w' := by
 have hu34 := Try.underlying34
 have HB := Aside0.mk (Below.refl w.heap.size w)
 have H : (some ((fop .sub .f64 a0_0 a1_0), (fop .sub .f64 a0_1 a1_1))) = some (r1, r2) := h
 clear h
 obtain ⟨ft154, hft154⟩ : ∃ y_ : Fl, y_ = (fop .sub .f64 a0_0 a1_0) := ⟨_, rfl⟩
 replace H : (some (ft154, (fop .sub .f64 a0_1 a1_1))) = some (r1, r2) := by first | (rw [hft154]; with_reducible exact H) | (have H2_ := (Option.bind_some _ _).symm.trans H; rw [hft154]; with_reducible exact H2_) | (have H2_ := (Option.bind_some _ _).symm.trans H; with_reducible exact H2_) | with_reducible exact H | (rw [hft154]; exact H) | exact H
 have Nft154 := Aside0.mk hft154
 clear hft154
 obtain ⟨ft155, hft155⟩ : ∃ y_ : Fl, y_ = (fop .sub .f64 a0_1 a1_1) := ⟨_, rfl⟩
 replace H : (some (ft154, ft155)) = some (r1, r2) := by first | (rw [hft155]; with_reducible exact H) | (have H2_ := (Option.bind_some _ _).symm.trans H; rw [hft155]; with_reducible exact H2_) | (have H2_ := (Option.bind_some _ _).symm.trans H; with_reducible exact H2_) | with_reducible exact H | (rw [hft155]; exact H) | exact H
 have Nft155 := Aside0.mk hft155
 clear hft155
 simp only [Option.some.injEq, Prod.mk.injEq] at H
 obtain ⟨rfl, rfl⟩ := H
 go_enter Try.func54, Try.ntmps54
 go_wp2_with (first | ((with_reducible refine gate_dst (N := 2) rfl ?_); refine box_event ?hg (N := 2) ?hd (cs := #[.float .f64 b_a0_0, .float .f64 b_a0_1]) (t := 34) ?hr ?_; (case hd => rfl); (case hg => rfl); (case hr => first | (go_simp; done) | (go_simp; rfl)); intro gb151 hg w3 hbox hb; have n0_ := Aside0.mk (below_step (by exact HB.out) hb); have n1_ := Aside0.mk (hbox); have n2_ := Aside0.mk ((by rw [hg]; exact (below_size (by exact HB.out)) : w.heap.size ≤ gb151)); have n3_ := Aside0.mk ((n2_.out)); clear HB; have HB := n0_; have BK151 := n1_; have GW151 := n2_; have GE151 := n3_; clear n0_ n1_ n2_ n3_; clear hb hbox hg) | ((with_reducible refine gate_dst (N := 3) rfl ?_); refine box_event ?hg (N := 3) ?hd (cs := #[.float .f64 b_a1_0, .float .f64 b_a1_1]) (t := 34) ?hr ?_; (case hd => rfl); (case hg => rfl); (case hr => first | (go_simp; done) | (go_simp; rfl)); intro gb152 hg w4 hbox hb; have n0_ := Aside0.mk (blk_below (g := gb151) (o := .cells #[.float .f64 b_a0_0, .float .f64 b_a0_1] 34 (0, 0)) (by exact BK151.out) hb); have n1_ := Aside0.mk (below_step (by exact HB.out) hb); have n2_ := Aside0.mk (hbox); have n3_ := Aside0.mk ((by rw [hg]; exact (below_size (by exact HB.out)) : w.heap.size ≤ gb152)); have n4_ := Aside0.mk ((n3_.out)); have n5_ := Aside0.mk ((by rw [hg]; exact Nat.ne_of_lt (blk_lt (g := gb151) (o := .cells #[.float .f64 b_a0_0, .float .f64 b_a0_1] 34 (0, 0)) (by exact BK151.out)) : gb151 ≠ gb152)); have n6_ := Aside0.mk ((n5_.out.symm)); clear BK151; clear HB; have BK151 := n0_; have HB := n1_; have BK152 := n2_; have GW152 := n3_; have GE152 := n4_; have NB151_152 := n5_; have NB152_151 := n6_; clear n0_ n1_ n2_ n3_ n4_ n5_ n6_; clear hb hbox hg) | ((with_reducible refine gate_dst (N := 4) rfl ?_); refine box_event ?hg (N := 4) ?hd (cs := #[.float .f64 0, .float .f64 0]) (t := 34) ?hr ?_; (case hd => rfl); (case hg => rfl); (case hr => first | (go_simp; done) | (go_simp; rfl)); intro gb153 hg w5 hbox hb; have n0_ := Aside0.mk (blk_below (g := gb151) (o := .cells #[.float .f64 b_a0_0, .float .f64 b_a0_1] 34 (0, 0)) (by exact BK151.out) hb); have n1_ := Aside0.mk (blk_below (g := gb152) (o := .cells #[.float .f64 b_a1_0, .float .f64 b_a1_1] 34 (0, 0)) (by exact BK152.out) hb); have n2_ := Aside0.mk (below_step (by exact HB.out) hb); have n3_ := Aside0.mk (hbox); have n4_ := Aside0.mk ((by rw [hg]; exact (below_size (by exact HB.out)) : w.heap.size ≤ gb153)); have n5_ := Aside0.mk ((n4_.out)); have n6_ := Aside0.mk ((by rw [hg]; exact Nat.ne_of_lt (blk_lt (g := gb151) (o := .cells #[.float .f64 b_a0_0, .float .f64 b_a0_1] 34 (0, 0)) (by exact BK151.out)) : gb151 ≠ gb153)); have n7_ := Aside0.mk ((n6_.out.symm)); have n8_ := Aside0.mk ((by rw [hg]; exact Nat.ne_of_lt (blk_lt (g := gb152) (o := .cells #[.float .f64 b_a1_0, .float .f64 b_a1_1] 34 (0, 0)) (by exact BK152.out)) : gb152 ≠ gb153)); have n9_ := Aside0.mk ((n8_.out.symm)); clear BK151; clear BK152; clear HB; have BK151 := n0_; have BK152 := n1_; have HB := n2_; have BK153 := n3_; have GW153 := n4_; have GE153 := n5_; have NB151_153 := n6_; have NB153_151 := n7_; have NB152_153 := n8_; have NB153_152 := n9_; clear n0_ n1_ n2_ n3_ n4_ n5_ n6_ n7_ n8_ n9_; clear hb hbox hg; have hnb6 := NB151_152.out; have hnc6 := NB152_151.out; have hnb7 := NB151_153.out; have hnc7 := NB153_151.out; have hcz8_0 : w5.cell? ⟨gb151, 0, none⟩ = some (.float .f64 b_a0_0) := (blk_cell BK151.out 0).trans rfl; have hcz8_1 : w5.cell? ⟨gb151, 1, none⟩ = some (.float .f64 b_a0_1) := (blk_cell BK151.out 1).trans rfl; have hfz8_0 := blk_frozen BK151.out 0; have hfz8_1 := blk_frozen BK151.out 1; have hnb9 := NB152_153.out; have hnc9 := NB153_152.out; have hcz10_0 : w5.cell? ⟨gb152, 0, none⟩ = some (.float .f64 b_a1_0) := (blk_cell BK152.out 0).trans rfl; have hcz10_1 : w5.cell? ⟨gb152, 1, none⟩ = some (.float .f64 b_a1_1) := (blk_cell BK152.out 1).trans rfl; have hfz10_0 := blk_frozen BK152.out 0; have hfz10_1 := blk_frozen BK152.out 1) | ((with_reducible refine gate_dst (N := 9) rfl ?_); refine fop_event rfl (N := 9) rfl (op := .sub) (by simp) rfl .f64 b_a0_0 b_a1_0 a0_0 a1_0 rfl rfl hF_a0_0 hF_a1_0 ?_; intro b_ft154 nf_ hF_; replace hF_ := hF_.trans Nft154.out.symm; have hF_ft154 := hF_; clear hF_) | ((with_reducible refine gate_dst (N := 14) rfl ?_); refine fop_event rfl (N := 14) rfl (op := .sub) (by simp) rfl .f64 b_a0_1 b_a1_1 a0_1 a1_1 rfl rfl hF_a0_1 hF_a1_1 ?_; intro b_ft155 nf_ hF_; replace hF_ := hF_.trans Nft155.out.symm; have hF_ft155 := hF_; clear hF_; have hcz11_0 : w5.cell? ⟨gb153, 0, none⟩ = some (.float .f64 0) := (blk_cell BK153.out 0).trans rfl; have hcz11_1 : w5.cell? ⟨gb153, 1, none⟩ = some (.float .f64 0) := (blk_cell BK153.out 1).trans rfl; have hfz11_0 := blk_frozen BK153.out 0; have hfz11_1 := blk_frozen BK153.out 1))
 refine bodyPost_ret (results_cell_row rfl _ _ gb153 34 #[.float .f64 b_ft154, .float .f64 b_ft155] (0, 0) _ rfl (by (with_reducible repeat (first | refine blk_drewN ?_ _ | refine blk_drew ?_ | refine blk_alloc ?_ _)); refine blk_put (cs := #[.float .f64 b_ft154, .float .f64 0]) ?_ 1 _ rfl; (with_reducible repeat (first | refine blk_drewN ?_ _ | refine blk_drew ?_ | refine blk_alloc ?_ _)); refine blk_put (cs := #[.float .f64 0, .float .f64 0]) ?_ 0 _ rfl; (with_reducible repeat (first | refine blk_drewN ?_ _ | refine blk_drew ?_ | refine blk_alloc ?_ _)); exact BK153.out) Try.underlying34 rfl (by kernel_rfl)) rfl ?_
 exact ⟨b_ft154, b_ft155, by first | rfl | (simp [errW_none, errW_some] <;> rfl) | (simp [*, errW_none, errW_some] <;> rfl), hF_ft154, hF_ft155, by repeat (first | (with_reducible first | exact HB.out | apply below_alloc | apply pw_below_drewN | apply below_drew1 | refine below_set ?_ GE153.out) | exact HB.out)⟩

/-! ### impl_CxAdd: function 60 -/
def impl_CxAdd.f (a0_0 : Fl) (a0_1 : Fl) (a1_0 : Fl) (a1_1 : Fl) : Option (Fl × Fl) := some ((fop .add .f64 a0_0 a1_0), (fop .add .f64 a0_1 a1_1))
set_option maxHeartbeats 8000000 in
set_option maxRecDepth 100000 in
theorem impl_CxAdd.calls (b_a0_0 : Nat) (a0_0 : Fl) (b_a0_1 : Nat) (a0_1 : Fl) (b_a1_0 : Nat) (a1_0 : Fl) (b_a1_1 : Nat) (a1_1 : Fl) (r1 : Fl) (r2 : Fl) (w : World) (hF_a0_0 : cn .f64 b_a0_0 = a0_0) (hF_a0_1 : cn .f64 b_a0_1 = a0_1) (hF_a1_0 : cn .f64 b_a1_0 = a1_0) (hF_a1_1 : cn .f64 b_a1_1 = a1_1) (h : impl_CxAdd.f a0_0 a0_1 a1_0 a1_1 = some (r1, r2)) :
  Calls Try.prog 60 #[.agg #[.float .f64 b_a0_0, .float .f64 b_a0_1], .agg #[.float .f64 b_a1_0, .float .f64 b_a1_1]] w fun e w' => ∃ b_r1 b_r2 : Nat, e = .returned (.agg #[.float .f64 b_r1, .float .f64 b_r2]) ∧ cn .f64 b_r1 = r1 ∧ cn .f64 b_r2 = r2 ∧ Below w.heap.size w w' := by
 have hu34 := Try.underlying34
 have HB := Aside0.mk (Below.refl w.heap.size w)
 have H : (some ((fop .add .f64 a0_0 a1_0), (fop .add .f64 a0_1 a1_1))) = some (r1, r2) := h
 clear h
 obtain ⟨ft159, hft159⟩ : ∃ y_ : Fl, y_ = (fop .add .f64 a0_0 a1_0) := ⟨_, rfl⟩
 replace H : (some (ft159, (fop .add .f64 a0_1 a1_1))) = some (r1, r2) := by first | (rw [hft159]; with_reducible exact H) | (have H2_ := (Option.bind_some _ _).symm.trans H; rw [hft159]; with_reducible exact H2_) | (have H2_ := (Option.bind_some _ _).symm.trans H; with_reducible exact H2_) | with_reducible exact H | (rw [hft159]; exact H) | exact H
 have Nft159 := Aside0.mk hft159
 clear hft159
 obtain ⟨ft160, hft160⟩ : ∃ y_ : Fl, y_ = (fop .add .f64 a0_1 a1_1) := ⟨_, rfl⟩
 replace H : (some (ft159, ft160)) = some (r1, r2) := by first | (rw [hft160]; with_reducible exact H) | (have H2_ := (Option.bind_some _ _).symm.trans H; rw [hft160]; with_reducible exact H2_) | (have H2_ := (Option.bind_some _ _).symm.trans H; with_reducible exact H2_) | with_reducible exact H | (rw [hft160]; exact H) | exact H
 have Nft160 := Aside0.mk hft160
 clear hft160
 simp only [Option.some.injEq, Prod.mk.injEq] at H
 obtain ⟨rfl, rfl⟩ := H
 go_enter Try.func60, Try.ntmps60
 go_wp2_with (first | ((with_reducible refine gate_dst (N := 2) rfl ?_); refine box_event ?hg (N := 2) ?hd (cs := #[.float .f64 b_a0_0, .float .f64 b_a0_1]) (t := 34) ?hr ?_; (case hd => rfl); (case hg => rfl); (case hr => first | (go_simp; done) | (go_simp; rfl)); intro gb156 hg w3 hbox hb; have n0_ := Aside0.mk (below_step (by exact HB.out) hb); have n1_ := Aside0.mk (hbox); have n2_ := Aside0.mk ((by rw [hg]; exact (below_size (by exact HB.out)) : w.heap.size ≤ gb156)); have n3_ := Aside0.mk ((n2_.out)); clear HB; have HB := n0_; have BK156 := n1_; have GW156 := n2_; have GE156 := n3_; clear n0_ n1_ n2_ n3_; clear hb hbox hg) | ((with_reducible refine gate_dst (N := 3) rfl ?_); refine box_event ?hg (N := 3) ?hd (cs := #[.float .f64 b_a1_0, .float .f64 b_a1_1]) (t := 34) ?hr ?_; (case hd => rfl); (case hg => rfl); (case hr => first | (go_simp; done) | (go_simp; rfl)); intro gb157 hg w4 hbox hb; have n0_ := Aside0.mk (blk_below (g := gb156) (o := .cells #[.float .f64 b_a0_0, .float .f64 b_a0_1] 34 (0, 0)) (by exact BK156.out) hb); have n1_ := Aside0.mk (below_step (by exact HB.out) hb); have n2_ := Aside0.mk (hbox); have n3_ := Aside0.mk ((by rw [hg]; exact (below_size (by exact HB.out)) : w.heap.size ≤ gb157)); have n4_ := Aside0.mk ((n3_.out)); have n5_ := Aside0.mk ((by rw [hg]; exact Nat.ne_of_lt (blk_lt (g := gb156) (o := .cells #[.float .f64 b_a0_0, .float .f64 b_a0_1] 34 (0, 0)) (by exact BK156.out)) : gb156 ≠ gb157)); have n6_ := Aside0.mk ((n5_.out.symm)); clear BK156; clear HB; have BK156 := n0_; have HB := n1_; have BK157 := n2_; have GW157 := n3_; have GE157 := n4_; have NB156_157 := n5_; have NB157_156 := n6_; clear n0_ n1_ n2_ n3_ n4_ n5_ n6_; clear hb hbox hg) | ((with_reducible refine gate_dst (N := 4) rfl ?_); refine box_event ?hg (N := 4) ?hd (cs := #[.float .f64 0, .float .f64 0]) (t := 34) ?hr ?_; (case hd => rfl); (case hg => rfl); (case hr => first | (go_simp; done) | (go_simp; rfl)); intro gb158 hg w5 hbox hb; have n0_ := Aside0.mk (blk_below (g := gb156) (o := .cells #[.float .f64 b_a0_0, .float .f64 b_a0_1] 34 (0, 0)) (by exact BK156.out) hb); have n1_ := Aside0.mk (blk_below (g := gb157) (o := .cells #[.float .f64 b_a1_0, .float .f64 b_a1_1] 34 (0, 0)) (by exact BK157.out) hb); have n2_ := Aside0.mk (below_step (by exact HB.out) hb); have n3_ := Aside0.mk (hbox); have n4_ := Aside0.mk ((by rw [hg]; exact (below_size (by exact HB.out)) : w.heap.size ≤ gb158)); have n5_ := Aside0.mk ((n4_.out)); have n6_ := Aside0.mk ((by rw [hg]; exact Nat.ne_of_lt (blk_lt (g := gb156) (o := .cells #[.float .f64 b_a0_0, .float .f64 b_a0_1] 34 (0, 0)) (by exact BK156.out)) : gb156 ≠ gb158)); have n7_ := Aside0.mk ((n6_.out.symm)); have n8_ := Aside0.mk ((by rw [hg]; exact Nat.ne_of_lt (blk_lt (g := gb157) (o := .cells #[.float .f64 b_a1_0, .float .f64 b_a1_1] 34 (0, 0)) (by exact BK157.out)) : gb157 ≠ gb158)); have n9_ := Aside0.mk ((n8_.out.symm)); clear BK156; clear BK157; clear HB; have BK156 := n0_; have BK157 := n1_; have HB := n2_; have BK158 := n3_; have GW158 := n4_; have GE158 := n5_; have NB156_158 := n6_; have NB158_156 := n7_; have NB157_158 := n8_; have NB158_157 := n9_; clear n0_ n1_ n2_ n3_ n4_ n5_ n6_ n7_ n8_ n9_; clear hb hbox hg; have hnb6 := NB156_157.out; have hnc6 := NB157_156.out; have hnb7 := NB156_158.out; have hnc7 := NB158_156.out; have hcz8_0 : w5.cell? ⟨gb156, 0, none⟩ = some (.float .f64 b_a0_0) := (blk_cell BK156.out 0).trans rfl; have hcz8_1 : w5.cell? ⟨gb156, 1, none⟩ = some (.float .f64 b_a0_1) := (blk_cell BK156.out 1).trans rfl; have hfz8_0 := blk_frozen BK156.out 0; have hfz8_1 := blk_frozen BK156.out 1; have hnb9 := NB157_158.out; have hnc9 := NB158_157.out; have hcz10_0 : w5.cell? ⟨gb157, 0, none⟩ = some (.float .f64 b_a1_0) := (blk_cell BK157.out 0).trans rfl; have hcz10_1 : w5.cell? ⟨gb157, 1, none⟩ = some (.float .f64 b_a1_1) := (blk_cell BK157.out 1).trans rfl; have hfz10_0 := blk_frozen BK157.out 0; have hfz10_1 := blk_frozen BK157.out 1) | ((with_reducible refine gate_dst (N := 9) rfl ?_); refine fop_event rfl (N := 9) rfl (op := .add) (by simp) rfl .f64 b_a0_0 b_a1_0 a0_0 a1_0 rfl rfl hF_a0_0 hF_a1_0 ?_; intro b_ft159 nf_ hF_; replace hF_ := hF_.trans Nft159.out.symm; have hF_ft159 := hF_; clear hF_) | ((with_reducible refine gate_dst (N := 14) rfl ?_); refine fop_event rfl (N := 14) rfl (op := .add) (by simp) rfl .f64 b_a0_1 b_a1_1 a0_1 a1_1 rfl rfl hF_a0_1 hF_a1_1 ?_; intro b_ft160 nf_ hF_; replace hF_ := hF_.trans Nft160.out.symm; have hF_ft160 := hF_; clear hF_; have hcz11_0 : w5.cell? ⟨gb158, 0, none⟩ = some (.float .f64 0) := (blk_cell BK158.out 0).trans rfl; have hcz11_1 : w5.cell? ⟨gb158, 1, none⟩ = some (.float .f64 0) := (blk_cell BK158.out 1).trans rfl; have hfz11_0 := blk_frozen BK158.out 0; have hfz11_1 := blk_frozen BK158.out 1))
 refine bodyPost_ret (results_cell_row rfl _ _ gb158 34 #[.float .f64 b_ft159, .float .f64 b_ft160] (0, 0) _ rfl (by (with_reducible repeat (first | refine blk_drewN ?_ _ | refine blk_drew ?_ | refine blk_alloc ?_ _)); refine blk_put (cs := #[.float .f64 b_ft159, .float .f64 0]) ?_ 1 _ rfl; (with_reducible repeat (first | refine blk_drewN ?_ _ | refine blk_drew ?_ | refine blk_alloc ?_ _)); refine blk_put (cs := #[.float .f64 0, .float .f64 0]) ?_ 0 _ rfl; (with_reducible repeat (first | refine blk_drewN ?_ _ | refine blk_drew ?_ | refine blk_alloc ?_ _)); exact BK158.out) Try.underlying34 rfl (by kernel_rfl)) rfl ?_
 exact ⟨b_ft159, b_ft160, by first | rfl | (simp [errW_none, errW_some] <;> rfl) | (simp [*, errW_none, errW_some] <;> rfl), hF_ft159, hF_ft160, by repeat (first | (with_reducible first | exact HB.out | apply below_alloc | apply pw_below_drewN | apply below_drew1 | refine below_set ?_ GE158.out) | exact HB.out)⟩

end Go.Proofs.Ytfopdbdamkfglaa.QFnQuotient
