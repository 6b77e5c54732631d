/- Lean functions that tell what the Go functions used by one law answer, and for each a proof that the Go code comes to just these answers; no condition. Printed by this session's own program over the kit's printer. -/
import Derived.Test.YtfopdbdamkfglaaQFnExactFromRootsx0
namespace Go.Proofs.Ytfopdbdamkfglaa.QFnExactFromRoots
open Go.RowKit Go.Proofs.YtfopdbdamkfglaaW.PrintWords Go.Proofs.YtfopdbdamkfglaaW.PrintLast Go.Proofs.YtfopdbdamkfglaaW.PrintMore
attribute [local go_sem] max2_int min2_int max_two min_two max_three min_three max_four min_four   -- for this text's walks alone
attribute [local go_sem high] go_eql go_neq go_lss go_leq go_gtr go_geq go_store   -- for this text's walks alone
set_option linter.unusedVariables false
set_option linter.unusedSimpArgs false

/-! ### impl_CxTimes: function 51 -/
def impl_CxTimes.f (a0_0 : Fl) (a0_1 : Fl) (a1_0 : Fl) (a1_1 : Fl) : Option (Fl × Fl) := some ((fop .sub .f64 (fop .mul .f64 a0_0 a1_0) (fop .mul .f64 a0_1 a1_1)), (fop .add .f64 (fop .mul .f64 a0_0 a1_1) (fop .mul .f64 a0_1 a1_0)))
set_option maxHeartbeats 8000000 in
set_option maxRecDepth 100000 in
theorem impl_CxTimes.calls (b_a0_0 : Nat) (a0_0 : Fl) (b_a0_1 : Nat) (a0_1 : Fl) (b_a1_0 : Nat) (a1_0 : Fl) (b_a1_1 : Nat) (a1_1 : Fl) (r1 : Fl) (r2 : Fl) (w : World) (hF_a0_0 : cn .f64 b_a0_0 = a0_0) (hF_a0_1 : cn .f64 b_a0_1 = a0_1) (hF_a1_0 : cn .f64 b_a1_0 = a1_0) (hF_a1_1 : cn .f64 b_a1_1 = a1_1) (h : impl_CxTimes.f a0_0 a0_1 a1_0 a1_1 = some (r1, r2)) :
    Calls Try.prog 51 #[.agg #[.float .f64 b_a0_0, .float .f64 b_a0_1], .agg #[.float .f64 b_a1_0, .float .f64 b_a1_1]] w fun e w' => ∃ b_r1 b_r2 : Nat, e = .returned (.agg #[.float .f64 b_r1, .float .f64 b_r2]) ∧ cn .f64 b_r1 = r1 ∧ cn .f64 b_r2 = r2 ∧ Below w.heap.size w w' := by
  have hu34 := Try.underlying34
  have HB := Aside0.mk (Below.refl w.heap.size w)
  have H : (some ((fop .sub .f64 (fop .mul .f64 a0_0 a1_0) (fop .mul .f64 a0_1 a1_1)), (fop .add .f64 (fop .mul .f64 a0_0 a1_1) (fop .mul .f64 a0_1 a1_0)))) = some (r1, r2) := h
  clear h
  obtain ⟨ft166, hft166⟩ : ∃ y_ : Fl, y_ = (fop .mul .f64 a0_0 a1_0) := ⟨_, rfl⟩
  replace H : (some ((fop .sub .f64 ft166 (fop .mul .f64 a0_1 a1_1)), (fop .add .f64 (fop .mul .f64 a0_0 a1_1) (fop .mul .f64 a0_1 a1_0)))) = some (r1, r2) := by first | (rw [hft166]; with_reducible exact H) | (have H2_ := (Option.bind_some _ _).symm.trans H; rw [hft166]; with_reducible exact H2_) | (have H2_ := (Option.bind_some _ _).symm.trans H; with_reducible exact H2_) | with_reducible exact H | (rw [hft166]; exact H) | exact H
  have Nft166 := Aside0.mk hft166
  clear hft166
  obtain ⟨ft167, hft167⟩ : ∃ y_ : Fl, y_ = (fop .mul .f64 a0_1 a1_1) := ⟨_, rfl⟩
  replace H : (some ((fop .sub .f64 ft166 ft167), (fop .add .f64 (fop .mul .f64 a0_0 a1_1) (fop .mul .f64 a0_1 a1_0)))) = some (r1, r2) := by first | (rw [hft167]; with_reducible exact H) | (have H2_ := (Option.bind_some _ _).symm.trans H; rw [hft167]; with_reducible exact H2_) | (have H2_ := (Option.bind_some _ _).symm.trans H; with_reducible exact H2_) | with_reducible exact H | (rw [hft167]; exact H) | exact H
  have Nft167 := Aside0.mk hft167
  clear hft167
  obtain ⟨ft168, hft168⟩ : ∃ y_ : Fl, y_ = (fop .sub .f64 ft166 ft167) := ⟨_, rfl⟩
  replace H : (some (ft168, (fop .add .f64 (fop .mul .f64 a0_0 a1_1) (fop .mul .f64 a0_1 a1_0)))) = some (r1, r2) := by first | (rw [hft168]; with_reducible exact H) | (have H2_ := (Option.bind_some _ _).symm.trans H; rw [hft168]; with_reducible exact H2_) | (have H2_ := (Option.bind_some _ _).symm.trans H; with_reducible exact H2_) | with_reducible exact H | (rw [hft168]; exact H) | exact H
  have Nft168 := Aside0.mk hft168
  clear hft168
  obtain ⟨ft169, hft169⟩ : ∃ y_ : Fl, y_ = (fop .mul .f64 a0_0 a1_1) := ⟨_, rfl⟩
  replace H : (some (ft168, (fop .add .f64 ft169 (fop .mul .f64 a0_1 a1_0)))) = some (r1, r2) := by first | (rw [hft169]; with_reducible exact H) | (have H2_ := (Option.bind_some _ _).symm.trans H; rw [hft169]; with_reducible exact H2_) | (have H2_ := (Option.bind_some _ _).symm.trans H; with_reducible exact H2_) | with_reducible exact H | (rw [hft169]; exact H) | exact H
  have Nft169 := Aside0.mk hft169
  clear hft169
  obtain ⟨ft170, hft170⟩ : ∃ y_ : Fl, y_ = (fop .mul .f64 a0_1 a1_0) := ⟨_, rfl⟩
  replace H : (some (ft168, (fop .add .f64 ft169 ft170))) = some (r1, r2) := by first | (rw [hft170]; with_reducible exact H) | (have H2_ := (Option.bind_some _ _).symm.trans H; rw [hft170]; with_reducible exact H2_) | (have H2_ := (Option.bind_some _ _).symm.trans H; with_reducible exact H2_) | with_reducible exact H | (rw [hft170]; exact H) | exact H
  have Nft170 := Aside0.mk hft170
  clear hft170
  obtain ⟨ft171, hft171⟩ : ∃ y_ : Fl, y_ = (fop .add .f64 ft169 ft170) := ⟨_, rfl⟩
  replace H : (some (ft168, ft171)) = some (r1, r2) := by first | (rw [hft171]; with_reducible exact H) | (have H2_ := (Option.bind_some _ _).symm.trans H; rw [hft171]; with_reducible exact H2_) | (have H2_ := (Option.bind_some _ _).symm.trans H; with_reducible exact H2_) | with_reducible exact H | (rw [hft171]; exact H) | exact H
  have Nft171 := Aside0.mk hft171
  clear hft171
  simp only [Option.some.injEq, Prod.mk.injEq] at H
  obtain ⟨rfl, rfl⟩ := H
  go_enter Try.func51, Try.ntmps51
  go_wp2_with (first | ((with_reducible refine gate_dst (N := 2) rfl ?_); refine box_event ?hg (N := 2) ?hd (cs := #[.float .f64 b_a0_0, .float .f64 b_a0_1]) (t := 34) ?hr ?_; (case hd => rfl); (case hg => rfl); (case hr => first | (go_simp; done) | (go_simp; rfl)); intro gb163 hg w3 hbox hb; have n0_ := Aside0.mk (below_step (by repeat (first | (with_reducible first | exact HB.out | apply below_alloc | apply pw_below_drewN | apply below_drew1) | exact HB.out)) hb); have n1_ := Aside0.mk (hbox); have n2_ := Aside0.mk ((by rw [hg]; exact (below_size (by repeat (first | (with_reducible first | exact HB.out | apply below_alloc | apply pw_below_drewN | apply below_drew1) | exact HB.out))) : w.heap.size ≤ gb163)); have n3_ := Aside0.mk ((by rw [hg]; exact (below_size (by repeat (first | (with_reducible first | exact HB.out | apply below_alloc | apply pw_below_drewN | apply below_drew1) | exact HB.out))) : w.heap.size ≤ gb163)); clear HB; have HB := n0_; have BK163 := n1_; have GW163 := n2_; have GE163 := n3_; clear n0_ n1_ n2_ n3_; clear hb hbox hg) | ((with_reducible refine gate_dst (N := 3) rfl ?_); refine box_event ?hg (N := 3) ?hd (cs := #[.float .f64 b_a1_0, .float .f64 b_a1_1]) (t := 34) ?hr ?_; (case hd => rfl); (case hg => rfl); (case hr => first | (go_simp; done) | (go_simp; rfl)); intro gb164 hg w4 hbox hb; have n0_ := Aside0.mk (blk_below (g := gb163) (o := .cells #[.float .f64 b_a0_0, .float .f64 b_a0_1] 34 (0, 0)) (by (with_reducible repeat (first | refine blk_drewN ?_ _ | refine blk_drew ?_ | refine blk_alloc ?_ _)); exact BK163.out) hb); have n1_ := Aside0.mk (below_step (by repeat (first | (with_reducible first | exact HB.out | apply below_alloc | apply pw_below_drewN | apply below_drew1 | refine below_set ?_ GE163.out) | exact HB.out)) hb); have n2_ := Aside0.mk (hbox); have n3_ := Aside0.mk ((by rw [hg]; exact (below_size (by repeat (first | (with_reducible first | exact HB.out | apply below_alloc | apply pw_below_drewN | apply below_drew1 | refine below_set ?_ GE163.out) | exact HB.out))) : w.heap.size ≤ gb164)); have n4_ := Aside0.mk ((by rw [hg]; exact (below_size (by repeat (first | (with_reducible first | exact HB.out | apply below_alloc | apply pw_below_drewN | apply below_drew1 | refine below_set ?_ GE163.out) | exact HB.out))) : w.heap.size ≤ gb164)); have n5_ := Aside0.mk ((by rw [hg]; exact Nat.ne_of_lt (blk_lt (g := gb163) (o := .cells #[.float .f64 b_a0_0, .float .f64 b_a0_1] 34 (0, 0)) (by (with_reducible repeat (first | refine blk_drewN ?_ _ | refine blk_drew ?_ | refine blk_alloc ?_ _)); exact BK163.out)) : gb163 ≠ gb164)); have n6_ := Aside0.mk ((by rw [hg]; exact Nat.ne_of_gt (blk_lt (g := gb163) (o := .cells #[.float .f64 b_a0_0, .float .f64 b_a0_1] 34 (0, 0)) (by (with_reducible repeat (first | refine blk_drewN ?_ _ | refine blk_drew ?_ | refine blk_alloc ?_ _)); exact BK163.out)) : gb164 ≠ gb163)); clear BK163; clear HB; have BK163 := n0_; have HB := n1_; have BK164 := n2_; have GW164 := n3_; have GE164 := n4_; have NB163_164 := n5_; have NB164_163 := n6_; clear n0_ n1_ n2_ n3_ n4_ n5_ n6_; clear hb hbox hg) | ((with_reducible refine gate_dst (N := 4) rfl ?_); refine box_event ?hg (N := 4) ?hd (cs := #[.float .f64 0, .float .f64 0]) (t := 34) ?hr ?_; (case hd => rfl); (case hg => rfl); (case hr => first | (go_simp; done) | (go_simp; rfl)); intro gb165 hg w5 hbox hb; have n0_ := Aside0.mk (blk_below (g := gb163) (o := .cells #[.float .f64 b_a0_0, .float .f64 b_a0_1] 34 (0, 0)) (by (with_reducible repeat (first | refine blk_drewN ?_ _ | refine blk_drew ?_ | refine blk_alloc ?_ _)); exact BK163.out) hb); have n1_ := Aside0.mk (blk_below (g := gb164) (o := .cells #[.float .f64 b_a1_0, .float .f64 b_a1_1] 34 (0, 0)) (by (with_reducible repeat (first | refine blk_drewN ?_ _ | refine blk_drew ?_ | refine blk_alloc ?_ _)); exact BK164.out) hb); have n2_ := Aside0.mk (below_step (by repeat (first | (with_reducible first | exact HB.out | apply below_alloc | apply pw_below_drewN | apply below_drew1 | refine below_set ?_ GE163.out | refine below_set ?_ GE164.out) | exact HB.out)) hb); have n3_ := Aside0.mk (hbox); have n4_ := Aside0.mk ((by rw [hg]; exact (below_size (by repeat (first | (with_reducible first | exact HB.out | apply below_alloc | apply pw_below_drewN | apply below_drew1 | refine below_set ?_ GE163.out | refine below_set ?_ GE164.out) | exact HB.out))) : w.heap.size ≤ gb165)); have n5_ := Aside0.mk ((by rw [hg]; exact (below_size (by repeat (first | (with_reducible first | exact HB.out | apply below_alloc | apply pw_below_drewN | apply below_drew1 | refine below_set ?_ GE163.out | refine below_set ?_ GE164.out) | exact HB.out))) : w.heap.size ≤ gb165)); have n6_ := Aside0.mk ((by rw [hg]; exact Nat.ne_of_lt (blk_lt (g := gb163) (o := .cells #[.float .f64 b_a0_0, .float .f64 b_a0_1] 34 (0, 0)) (by (with_reducible repeat (first | refine blk_drewN ?_ _ | refine blk_drew ?_ | refine blk_alloc ?_ _)); exact BK163.out)) : gb163 ≠ gb165)); have n7_ := Aside0.mk ((by rw [hg]; exact Nat.ne_of_gt (blk_lt (g := gb163) (o := .cells #[.float .f64 b_a0_0, .float .f64 b_a0_1] 34 (0, 0)) (by (with_reducible repeat (first | refine blk_drewN ?_ _ | refine blk_drew ?_ | refine blk_alloc ?_ _)); exact BK163.out)) : gb165 ≠ gb163)); have n8_ := Aside0.mk ((by rw [hg]; exact Nat.ne_of_lt (blk_lt (g := gb164) (o := .cells #[.float .f64 b_a1_0, .float .f64 b_a1_1] 34 (0, 0)) (by (with_reducible repeat (first | refine blk_drewN ?_ _ | refine blk_drew ?_ | refine blk_alloc ?_ _)); exact BK164.out)) : gb164 ≠ gb165)); have n9_ := Aside0.mk ((by rw [hg]; exact Nat.ne_of_gt (blk_lt (g := gb164) (o := .cells #[.float .f64 b_a1_0, .float .f64 b_a1_1] 34 (0, 0)) (by (with_reducible repeat (first | refine blk_drewN ?_ _ | refine blk_drew ?_ | refine blk_alloc ?_ _)); exact BK164.out)) : gb165 ≠ gb164)); clear BK163; clear BK164; clear HB; have BK163 := n0_; have BK164 := n1_; have HB := n2_; have BK165 := n3_; have GW165 := n4_; have GE165 := n5_; have NB163_165 := n6_; have NB165_163 := n7_; have NB164_165 := n8_; have NB165_164 := n9_; clear n0_ n1_ n2_ n3_ n4_ n5_ n6_ n7_ n8_ n9_; clear hb hbox hg; have hnb6 := NB163_164.out; have hnc6 := NB164_163.out; have hnb7 := NB163_165.out; have hnc7 := NB165_163.out; have hcz8_0 : w5.cell? ⟨gb163, 0, none⟩ = some (.float .f64 b_a0_0) := (blk_cell BK163.out 0).trans rfl; have hcz8_1 : w5.cell? ⟨gb163, 1, none⟩ = some (.float .f64 b_a0_1) := (blk_cell BK163.out 1).trans rfl; have hfz8_0 := blk_frozen BK163.out 0; have hfz8_1 := blk_frozen BK163.out 1; have hnb9 := NB164_165.out; have hnc9 := NB165_164.out; have hcz10_0 : w5.cell? ⟨gb164, 0, none⟩ = some (.float .f64 b_a1_0) := (blk_cell BK164.out 0).trans rfl; have hcz10_1 : w5.cell? ⟨gb164, 1, none⟩ = some (.float .f64 b_a1_1) := (blk_cell BK164.out 1).trans rfl; have hfz10_0 := blk_frozen BK164.out 0; have hfz10_1 := blk_frozen BK164.out 1) | ((with_reducible refine gate_dst (N := 9) rfl ?_); refine fop_event rfl (N := 9) rfl (op := .mul) (by simp) rfl .f64 b_a0_0 b_a1_0 a0_0 a1_0 rfl rfl hF_a0_0 hF_a1_0 ?_; intro b_ft166 nf_ hF_; replace hF_ := hF_.trans Nft166.out.symm; have hF_ft166 := hF_; clear hF_) | ((with_reducible refine gate_dst (N := 14) rfl ?_); refine fop_event rfl (N := 14) rfl (op := .mul) (by simp) rfl .f64 b_a0_1 b_a1_1 a0_1 a1_1 rfl rfl hF_a0_1 hF_a1_1 ?_; intro b_ft167 nf_ hF_; replace hF_ := hF_.trans Nft167.out.symm; have hF_ft167 := hF_; clear hF_) | ((with_reducible refine gate_dst (N := 15) rfl ?_); refine fop_event rfl (N := 15) rfl (op := .sub) (by simp) rfl .f64 b_ft166 b_ft167 ft166 ft167 rfl rfl hF_ft166 hF_ft167 ?_; intro b_ft168 nf_ hF_; replace hF_ := hF_.trans Nft168.out.symm; have hF_ft168 := hF_; clear hF_) | ((with_reducible refine gate_dst (N := 20) rfl ?_); refine fop_event rfl (N := 20) rfl (op := .mul) (by simp) rfl .f64 b_a0_0 b_a1_1 a0_0 a1_1 rfl rfl hF_a0_0 hF_a1_1 ?_; intro b_ft169 nf_ hF_; replace hF_ := hF_.trans Nft169.out.symm; have hF_ft169 := hF_; clear hF_) | ((with_reducible refine gate_dst (N := 25) rfl ?_); refine fop_event rfl (N := 25) rfl (op := .mul) (by simp) rfl .f64 b_a0_1 b_a1_0 a0_1 a1_0 rfl rfl hF_a0_1 hF_a1_0 ?_; intro b_ft170 nf_ hF_; replace hF_ := hF_.trans Nft170.out.symm; have hF_ft170 := hF_; clear hF_) | ((with_reducible refine gate_dst (N := 26) rfl ?_); refine fop_event rfl (N := 26) rfl (op := .add) (by simp) rfl .f64 b_ft169 b_ft170 ft169 ft170 rfl rfl hF_ft169 hF_ft170 ?_; intro b_ft171 nf_ hF_; replace hF_ := hF_.trans Nft171.out.symm; have hF_ft171 := hF_; clear hF_; have hcz11_0 : w5.cell? ⟨gb165, 0, none⟩ = some (.float .f64 0) := (blk_cell BK165.out 0).trans rfl; have hcz11_1 : w5.cell? ⟨gb165, 1, none⟩ = some (.float .f64 0) := (blk_cell BK165.out 1).trans rfl; have hfz11_0 := blk_frozen BK165.out 0; have hfz11_1 := blk_frozen BK165.out 1))
  refine bodyPost_ret (results_cell_row rfl _ _ gb165 34 #[.float .f64 b_ft168, .float .f64 b_ft171] (0, 0) _ rfl (by (with_reducible repeat (first | refine blk_drewN ?_ _ | refine blk_drew ?_ | refine blk_alloc ?_ _)); refine blk_put (cs := #[.float .f64 b_ft168, .float .f64 0]) ?_ 1 _ rfl; (with_reducible repeat (first | refine blk_drewN ?_ _ | refine blk_drew ?_ | refine blk_alloc ?_ _)); refine blk_put (cs := #[.float .f64 0, .float .f64 0]) ?_ 0 _ rfl; (with_reducible repeat (first | refine blk_drewN ?_ _ | refine blk_drew ?_ | refine blk_alloc ?_ _)); exact BK165.out) Try.underlying34 rfl (by kernel_rfl)) rfl ?_
  exact ⟨b_ft168, b_ft171, by first | rfl | (simp [errW_none, errW_some] <;> rfl) | (simp [*, errW_none, errW_some] <;> rfl), hF_ft168, hF_ft171, by repeat (first | (with_reducible first | exact HB.out | apply below_alloc | apply pw_below_drewN | apply below_drew1 | refine below_set ?_ GE163.out | refine below_set ?_ GE164.out | refine below_set ?_ GE165.out) | exact HB.out)⟩

/-! ### impl_CxLess: function 54 -/
def impl_CxLess.f (a0_0 : Fl) (a0_1 : Fl) (a1_0 : Fl) (a1_1 : Fl) : Option (Fl × Fl) := some ((fop .sub .f64 a0_0 a1_0), (fop .sub .f64 a0_1 a1_1))
set_option maxHeartbeats 8000000 in
set_option maxRecDepth 100000 in
theorem impl_CxLess.calls (b_a0_0 : Nat) (a0_0 : Fl) (b_a0_1 : Nat) (a0_1 : Fl) (b_a1_0 : Nat) (a1_0 : Fl) (b_a1_1 : Nat) (a1_1 : Fl) (r1 : Fl) (r2 : Fl) (w : World) (hF_a0_0 : cn .f64 b_a0_0 = a0_0) (hF_a0_1 : cn .f64 b_a0_1 = a0_1) (hF_a1_0 : cn .f64 b_a1_0 = a1_0) (hF_a1_1 : cn .f64 b_a1_1 = a1_1) (h : impl_CxLess.f a0_0 a0_1 a1_0 a1_1 = some (r1, r2)) :
    Calls Try.prog 54 #[.agg #[.float .f64 b_a0_0, .float .f64 b_a0_1], .agg #[.float .f64 b_a1_0, .float .f64 b_a1_1]] w fun e w' => ∃ b_r1 b_r2 : Nat, e = .returned (.agg #[.float .f64 b_r1, .float .f64 b_r2]) ∧ cn .f64 b_r1 = r1 ∧ cn .f64 b_r2 = r2 ∧ Below w.heap.size w w' := by
  have hu34 := Try.underlying34
  have HB := Aside0.mk (Below.refl w.heap.size w)
  have H : (some ((fop .sub .f64 a0_0 a1_0), (fop .sub .f64 a0_1 a1_1))) = some (r1, r2) := h
  clear h
  obtain ⟨ft175, hft175⟩ : ∃ y_ : Fl, y_ = (fop .sub .f64 a0_0 a1_0) := ⟨_, rfl⟩
  replace H : (some (ft175, (fop .sub .f64 a0_1 a1_1))) = some (r1, r2) := by first | (rw [hft175]; with_reducible exact H) | (have H2_ := (Option.bind_some _ _).symm.trans H; rw [hft175]; with_reducible exact H2_) | (have H2_ := (Option.bind_some _ _).symm.trans H; with_reducible exact H2_) | with_reducible exact H | (rw [hft175]; exact H) | exact H
  have Nft175 := Aside0.mk hft175
  clear hft175
  obtain ⟨ft176, hft176⟩ : ∃ y_ : Fl, y_ = (fop .sub .f64 a0_1 a1_1) := ⟨_, rfl⟩
  replace H : (some (ft175, ft176)) = some (r1, r2) := by first | (rw [hft176]; with_reducible exact H) | (have H2_ := (Option.bind_some _ _).symm.trans H; rw [hft176]; with_reducible exact H2_) | (have H2_ := (Option.bind_some _ _).symm.trans H; with_reducible exact H2_) | with_reducible exact H | (rw [hft176]; exact H) | exact H
  have Nft176 := Aside0.mk hft176
  clear hft176
  simp only [Option.some.injEq, Prod.mk.injEq] at H
  obtain ⟨rfl, rfl⟩ := H
  go_enter Try.func54, Try.ntmps54
  go_wp2_with (first | ((with_reducible refine gate_dst (N := 2) rfl ?_); refine box_event ?hg (N := 2) ?hd (cs := #[.float .f64 b_a0_0, .float .f64 b_a0_1]) (t := 34) ?hr ?_; (case hd => rfl); (case hg => rfl); (case hr => first | (go_simp; done) | (go_simp; rfl)); intro gb172 hg w3 hbox hb; have n0_ := Aside0.mk (below_step (by repeat (first | (with_reducible first | exact HB.out | apply below_alloc | apply pw_below_drewN | apply below_drew1) | exact HB.out)) hb); have n1_ := Aside0.mk (hbox); have n2_ := Aside0.mk ((by rw [hg]; exact (below_size (by repeat (first | (with_reducible first | exact HB.out | apply below_alloc | apply pw_below_drewN | apply below_drew1) | exact HB.out))) : w.heap.size ≤ gb172)); have n3_ := Aside0.mk ((by rw [hg]; exact (below_size (by repeat (first | (with_reducible first | exact HB.out | apply below_alloc | apply pw_below_drewN | apply below_drew1) | exact HB.out))) : w.heap.size ≤ gb172)); clear HB; have HB := n0_; have BK172 := n1_; have GW172 := n2_; have GE172 := n3_; clear n0_ n1_ n2_ n3_; clear hb hbox hg) | ((with_reducible refine gate_dst (N := 3) rfl ?_); refine box_event ?hg (N := 3) ?hd (cs := #[.float .f64 b_a1_0, .float .f64 b_a1_1]) (t := 34) ?hr ?_; (case hd => rfl); (case hg => rfl); (case hr => first | (go_simp; done) | (go_simp; rfl)); intro gb173 hg w4 hbox hb; have n0_ := Aside0.mk (blk_below (g := gb172) (o := .cells #[.float .f64 b_a0_0, .float .f64 b_a0_1] 34 (0, 0)) (by (with_reducible repeat (first | refine blk_drewN ?_ _ | refine blk_drew ?_ | refine blk_alloc ?_ _)); exact BK172.out) hb); have n1_ := Aside0.mk (below_step (by repeat (first | (with_reducible first | exact HB.out | apply below_alloc | apply pw_below_drewN | apply below_drew1 | refine below_set ?_ GE172.out) | exact HB.out)) hb); have n2_ := Aside0.mk (hbox); have n3_ := Aside0.mk ((by rw [hg]; exact (below_size (by repeat (first | (with_reducible first | exact HB.out | apply below_alloc | apply pw_below_drewN | apply below_drew1 | refine below_set ?_ GE172.out) | exact HB.out))) : w.heap.size ≤ gb173)); have n4_ := Aside0.mk ((by rw [hg]; exact (below_size (by repeat (first | (with_reducible first | exact HB.out | apply below_alloc | apply pw_below_drewN | apply below_drew1 | refine below_set ?_ GE172.out) | exact HB.out))) : w.heap.size ≤ gb173)); have n5_ := Aside0.mk ((by rw [hg]; exact Nat.ne_of_lt (blk_lt (g := gb172) (o := .cells #[.float .f64 b_a0_0, .float .f64 b_a0_1] 34 (0, 0)) (by (with_reducible repeat (first | refine blk_drewN ?_ _ | refine blk_drew ?_ | refine blk_alloc ?_ _)); exact BK172.out)) : gb172 ≠ gb173)); have n6_ := Aside0.mk ((by rw [hg]; exact Nat.ne_of_gt (blk_lt (g := gb172) (o := .cells #[.float .f64 b_a0_0, .float .f64 b_a0_1] 34 (0, 0)) (by (with_reducible repeat (first | refine blk_drewN ?_ _ | refine blk_drew ?_ | refine blk_alloc ?_ _)); exact BK172.out)) : gb173 ≠ gb172)); clear BK172; clear HB; have BK172 := n0_; have HB := n1_; have BK173 := n2_; have GW173 := n3_; have GE173 := n4_; have NB172_173 := n5_; have NB173_172 := n6_; clear n0_ n1_ n2_ n3_ n4_ n5_ n6_; clear hb hbox hg) | ((with_reducible refine gate_dst (N := 4) rfl ?_); refine box_event ?hg (N := 4) ?hd (cs := #[.float .f64 0, .float .f64 0]) (t := 34) ?hr ?_; (case hd => rfl); (case hg => rfl); (case hr => first | (go_simp; done) | (go_simp; rfl)); intro gb174 hg w5 hbox hb; have n0_ := Aside0.mk (blk_below (g := gb172) (o := .cells #[.float .f64 b_a0_0, .float .f64 b_a0_1] 34 (0, 0)) (by (with_reducible repeat (first | refine blk_drewN ?_ _ | refine blk_drew ?_ | refine blk_alloc ?_ _)); exact BK172.out) hb); have n1_ := Aside0.mk (blk_below (g := gb173) (o := .cells #[.float .f64 b_a1_0, .float .f64 b_a1_1] 34 (0, 0)) (by (with_reducible repeat (first | refine blk_drewN ?_ _ | refine blk_drew ?_ | refine blk_alloc ?_ _)); exact BK173.out) hb); have n2_ := Aside0.mk (below_step (by repeat (first | (with_reducible first | exact HB.out | apply below_alloc | apply pw_below_drewN | apply below_drew1 | refine below_set ?_ GE172.out | refine below_set ?_ GE173.out) | exact HB.out)) hb); have n3_ := Aside0.mk (hbox); have n4_ := Aside0.mk ((by rw [hg]; exact (below_size (by repeat (first | (with_reducible first | exact HB.out | apply below_alloc | apply pw_below_drewN | apply below_drew1 | refine below_set ?_ GE172.out | refine below_set ?_ GE173.out) | exact HB.out))) : w.heap.size ≤ gb174)); have n5_ := Aside0.mk ((by rw [hg]; exact (below_size (by repeat (first | (with_reducible first | exact HB.out | apply below_alloc | apply pw_below_drewN | apply below_drew1 | refine below_set ?_ GE172.out | refine below_set ?_ GE173.out) | exact HB.out))) : w.heap.size ≤ gb174)); have n6_ := Aside0.mk ((by rw [hg]; exact Nat.ne_of_lt (blk_lt (g := gb172) (o := .cells #[.float .f64 b_a0_0, .float .f64 b_a0_1] 34 (0, 0)) (by (with_reducible repeat (first | refine blk_drewN ?_ _ | refine blk_drew ?_ | refine blk_alloc ?_ _)); exact BK172.out)) : gb172 ≠ gb174)); have n7_ := Aside0.mk ((by rw [hg]; exact Nat.ne_of_gt (blk_lt (g := gb172) (o := .cells #[.float .f64 b_a0_0, .float .f64 b_a0_1] 34 (0, 0)) (by (with_reducible repeat (first | refine blk_drewN ?_ _ | refine blk_drew ?_ | refine blk_alloc ?_ _)); exact BK172.out)) : gb174 ≠ gb172)); have n8_ := Aside0.mk ((by rw [hg]; exact Nat.ne_of_lt (blk_lt (g := gb173) (o := .cells #[.float .f64 b_a1_0, .float .f64 b_a1_1] 34 (0, 0)) (by (with_reducible repeat (first | refine blk_drewN ?_ _ | refine blk_drew ?_ | refine blk_alloc ?_ _)); exact BK173.out)) : gb173 ≠ gb174)); have n9_ := Aside0.mk ((by rw [hg]; exact Nat.ne_of_gt (blk_lt (g := gb173) (o := .cells #[.float .f64 b_a1_0, .float .f64 b_a1_1] 34 (0, 0)) (by (with_reducible repeat (first | refine blk_drewN ?_ _ | refine blk_drew ?_ | refine blk_alloc ?_ _)); exact BK173.out)) : gb174 ≠ gb173)); clear BK172; clear BK173; clear HB; have BK172 := n0_; have BK173 := n1_; have HB := n2_; have BK174 := n3_; have GW174 := n4_; have GE174 := n5_; have NB172_174 := n6_; have NB174_172 := n7_; have NB173_174 := n8_; have NB174_173 := n9_; clear n0_ n1_ n2_ n3_ n4_ n5_ n6_ n7_ n8_ n9_; clear hb hbox hg; have hnb6 := NB172_173.out; have hnc6 := NB173_172.out; have hnb7 := NB172_174.out; have hnc7 := NB174_172.out; have hcz8_0 : w5.cell? ⟨gb172, 0, none⟩ = some (.float .f64 b_a0_0) := (blk_cell BK172.out 0).trans rfl; have hcz8_1 : w5.cell? ⟨gb172, 1, none⟩ = some (.float .f64 b_a0_1) := (blk_cell BK172.out 1).trans rfl; have hfz8_0 := blk_frozen BK172.out 0; have hfz8_1 := blk_frozen BK172.out 1; have hnb9 := NB173_174.out; have hnc9 := NB174_173.out; have hcz10_0 : w5.cell? ⟨gb173, 0, none⟩ = some (.float .f64 b_a1_0) := (blk_cell BK173.out 0).trans rfl; have hcz10_1 : w5.cell? ⟨gb173, 1, none⟩ = some (.float .f64 b_a1_1) := (blk_cell BK173.out 1).trans rfl; have hfz10_0 := blk_frozen BK173.out 0; have hfz10_1 := blk_frozen BK173.out 1) | ((with_reducible refine gate_dst (N := 9) rfl ?_); refine fop_event rfl (N := 9) rfl (op := .sub) (by simp) rfl .f64 b_a0_0 b_a1_0 a0_0 a1_0 rfl rfl hF_a0_0 hF_a1_0 ?_; intro b_ft175 nf_ hF_; replace hF_ := hF_.trans Nft175.out.symm; have hF_ft175 := hF_; clear hF_) | ((with_reducible refine gate_dst (N := 14) rfl ?_); refine fop_event rfl (N := 14) rfl (op := .sub) (by simp) rfl .f64 b_a0_1 b_a1_1 a0_1 a1_1 rfl rfl hF_a0_1 hF_a1_1 ?_; intro b_ft176 nf_ hF_; replace hF_ := hF_.trans Nft176.out.symm; have hF_ft176 := hF_; clear hF_; have hcz11_0 : w5.cell? ⟨gb174, 0, none⟩ = some (.float .f64 0) := (blk_cell BK174.out 0).trans rfl; have hcz11_1 : w5.cell? ⟨gb174, 1, none⟩ = some (.float .f64 0) := (blk_cell BK174.out 1).trans rfl; have hfz11_0 := blk_frozen BK174.out 0; have hfz11_1 := blk_frozen BK174.out 1))
  refine bodyPost_ret (results_cell_row rfl _ _ gb174 34 #[.float .f64 b_ft175, .float .f64 b_ft176] (0, 0) _ rfl (by (with_reducible repeat (first | refine blk_drewN ?_ _ | refine blk_drew ?_ | refine blk_alloc ?_ _)); refine blk_put (cs := #[.float .f64 b_ft175, .float .f64 0]) ?_ 1 _ rfl; (with_reducible repeat (first | refine blk_drewN ?_ _ | refine blk_drew ?_ | refine blk_alloc ?_ _)); refine blk_put (cs := #[.float .f64 0, .float .f64 0]) ?_ 0 _ rfl; (with_reducible repeat (first | refine blk_drewN ?_ _ | refine blk_drew ?_ | refine blk_alloc ?_ _)); exact BK174.out) Try.underlying34 rfl (by kernel_rfl)) rfl ?_
  exact ⟨b_ft175, b_ft176, by first | rfl | (simp [errW_none, errW_some] <;> rfl) | (simp [*, errW_none, errW_some] <;> rfl), hF_ft175, hF_ft176, by repeat (first | (with_reducible first | exact HB.out | apply below_alloc | apply pw_below_drewN | apply below_drew1 | refine below_set ?_ GE172.out | refine below_set ?_ GE173.out | refine below_set ?_ GE174.out) | exact HB.out)⟩

/-! ### impl_FromRoots: function 38 -/
mutual
def impl_FromRoots.l0 : Nat → List (S34) → List (S34) → Int → Int → Option ((List (S34)) × Bool)
  | 0, _, _, _, _ => none
  | k + 1, x4, x14, x15, x16 => if x16 < x15 then (if 0 ≤ x16 then (if x16 < (x14.length : Int) then (if 0 < (x4.length : Int) then (impl_FromRoots.l1 k x4 (([(⟨((rd_T34 x4 0).f0), ((rd_T34 x4 0).f1)⟩ : S34)] : List (S34))) 1 x14 x15 x16 ((rd_T34 x14 x16).f0) ((rd_T34 x14 x16).f1)) else (none)) else (none)) else (none)) else (some (x4, true))
def impl_FromRoots.l1 : Nat → List (S34) → List (S34) → Int → List (S34) → Int → Int → Fl → Fl → Option ((List (S34)) × Bool)
  | 0, _, _, _, _, _, _, _, _ => none
  | k + 1, x4, x7, x8, x14, x15, x16, x182000, x182001 => if x8 < (x4.length : Int) then (if 0 ≤ x8 then (if 0 ≤ (wrap64 (x8 - 1)) then (if (wrap64 (x8 - 1)) < (x4.length : Int) then ((impl_CxTimes.f ((rd_T34 x4 (wrap64 (x8 - 1))).f0) ((rd_T34 x4 (wrap64 (x8 - 1))).f1) x182000 x182001).bind fun bt188 => ((impl_CxLess.f ((rd_T34 x4 x8).f0) ((rd_T34 x4 x8).f1) bt188.1 bt188.2).bind fun bt190 => (if x7.length < 8796093022208 then (impl_FromRoots.l1 k x4 (x7 ++ [(⟨bt190.1, bt190.2⟩ : S34)]) (wrap64 (x8 + 1)) x14 x15 x16 x182000 x182001) else (none)))) else (none)) else (none)) else (none)) else (if 0 ≤ (wrap64 ((x4.length : Int) - 1)) then (if (wrap64 ((x4.length : Int) - 1)) < (x4.length : Int) then ((impl_CxTimes.f ((rd_T34 x4 (wrap64 ((x4.length : Int) - 1))).f0) ((rd_T34 x4 (wrap64 ((x4.length : Int) - 1))).f1) x182000 x182001).bind fun bt196 => ((impl_CxLess.f (cn .f64 0) (cn .f64 0) bt196.1 bt196.2).bind fun bt198 => (if x7.length < 8796093022208 then (impl_FromRoots.l0 k (x7 ++ [(⟨bt198.1, bt198.2⟩ : S34)]) x14 x15 (wrap64 (x16 + 1))) else (none)))) else (none)) else (none))
end
def impl_FromRoots.f (k : Nat) (l0 : List (S34)) : Option ((List (S34)) × Bool) := if (l0.length : Int) > 11 then (some (([] : List (S34)), false)) else (impl_FromRoots.l0 k (([(⟨(cn .f64 4607182418800017408), (cn .f64 0)⟩ : S34)] : List (S34))) l0 (l0.length : Int) 0)
theorem impl_FromRoots.mono_l : ∀ k, (∀ y0 y1 y2 y3, LeO (impl_FromRoots.l0 k y0 y1 y2 y3) (impl_FromRoots.l0 (k + 1) y0 y1 y2 y3)) ∧ (∀ y0 y1 y2 y3 y4 y5 y6 y7, LeO (impl_FromRoots.l1 k y0 y1 y2 y3 y4 y5 y6 y7) (impl_FromRoots.l1 (k + 1) y0 y1 y2 y3 y4 y5 y6 y7))
  | 0 => ⟨fun _ _ _ _ r h => by simp [impl_FromRoots.l0] at h, fun _ _ _ _ _ _ _ _ r h => by simp [impl_FromRoots.l1] at h⟩
  | k + 1 => by
    obtain ⟨ih0, ih1⟩ := impl_FromRoots.mono_l k
    refine ⟨?_, ?_⟩
    · intro y0 y1 y2 y3
      unfold impl_FromRoots.l0
      repeat' first
      | (with_reducible exact ih0 _ _ _ _)
      | (with_reducible exact ih1 _ _ _ _ _ _ _ _)
      | (with_reducible exact LeO.refl _)
      | (with_reducible exact LeO.none _)
      | (with_reducible refine LeO.ite ?_ ?_)
      | (with_reducible refine LeO.bind ?_ (fun _ => ?_))
      | exact ih0 _ _ _ _
      | exact ih1 _ _ _ _ _ _ _ _
      | exact LeO.none _
      | refine LeO.ite ?_ ?_
      | refine LeO.bind ?_ (fun _ => ?_)
    · intro y0 y1 y2 y3 y4 y5 y6 y7
      unfold impl_FromRoots.l1
      repeat' first
      | (with_reducible exact ih0 _ _ _ _)
      | (with_reducible exact ih1 _ _ _ _ _ _ _ _)
      | (with_reducible exact LeO.refl _)
      | (with_reducible exact LeO.none _)
      | (with_reducible refine LeO.ite ?_ ?_)
      | (with_reducible refine LeO.bind ?_ (fun _ => ?_))
      | exact ih0 _ _ _ _
      | exact ih1 _ _ _ _ _ _ _ _
      | exact LeO.none _
      | refine LeO.ite ?_ ?_
      | refine LeO.bind ?_ (fun _ => ?_)
theorem impl_FromRoots.mono : ∀ a0 k, LeO (impl_FromRoots.f k a0) (impl_FromRoots.f (k + 1) a0) := by
  intro a0 k
  obtain ⟨ih0, ih1⟩ := impl_FromRoots.mono_l k
  unfold impl_FromRoots.f
  repeat' first
      | (with_reducible exact ih0 _ _ _ _)
      | (with_reducible exact ih1 _ _ _ _ _ _ _ _)
      | (with_reducible exact LeO.refl _)
      | (with_reducible exact LeO.none _)
      | (with_reducible refine LeO.ite ?_ ?_)
      | (with_reducible refine LeO.bind ?_ (fun _ => ?_))
      | exact ih0 _ _ _ _
      | exact ih1 _ _ _ _ _ _ _ _
      | exact LeO.none _
      | refine LeO.ite ?_ ?_
      | refine LeO.bind ?_ (fun _ => ?_)
def impl_FromRoots.T11 : Bool × List (List Nat × List Nat) := (true, [([], []), ([], []), ([], []), ([1, 2], [1, 2]), ([3], [3]), ([], []), ([], []), ([6], [6]), ([5, 7], [5, 7]), ([8], [8]), ([], []), ([9, 10], [9, 10]), ([4, 11, 11], [4, 11]), ([12], [12]), ([0, 13, 12], [0, 13]), ([14, 14, 0, 1, 2, 3, 4, 5, 6, 7, 8, 9, 10, 11, 12, 13, 14], [0, 14])])
def impl_FromRoots.B11 : List Nat := [0, 0, 0, 6, 14, 0, 0, 64, 224, 480, 0, 2016, 4094, 8190, 16383, 32767]
theorem impl_FromRoots.tab11 : rtab .any (opsOf Try.f38 11) = impl_FromRoots.T11 := by kernel_rfl
theorem impl_FromRoots.bits11 : waitsOk impl_FromRoots.T11.2 impl_FromRoots.B11 = true := by kernel_rfl
def impl_FromRoots.T12 : Bool × List (List Nat × List Nat) := (true, [([], []), ([], []), ([], []), ([], []), ([3], [3]), ([4], [4]), ([2, 5], [2, 5]), ([6], [6]), ([], []), ([7, 8], [7, 8]), ([1, 9, 9], [1, 9]), ([10], [10]), ([0, 11, 10], [0, 11]), ([12, 12, 0, 1, 2, 3, 4, 5, 6, 7, 8, 9, 10, 11, 12], [2, 3, 12])])
def impl_FromRoots.B12 : List Nat := [0, 0, 0, 0, 8, 24, 60, 124, 0, 508, 1022, 2046, 4095, 8191]
theorem impl_FromRoots.tab12 : rtab .any (opsOf Try.f38 12) = impl_FromRoots.T12 := by kernel_rfl
theorem impl_FromRoots.bits12 : waitsOk impl_FromRoots.T12.2 impl_FromRoots.B12 = true := by kernel_rfl
set_option maxHeartbeats 8000000 in
set_option maxRecDepth 100000 in
theorem impl_FromRoots.calls (k : Nat) (A0 : Option Addr) (c0 : Nat) (l0 : List (S34)) (r1 : List (S34)) (r2 : Bool) (w : World) (hr0 : Kd.C k34 w A0 l0.length l0) (hc0 : l0.length ≤ c0) (h : impl_FromRoots.f k l0 = some (r1, r2)) :
    Calls Try.prog 38 #[.slice A0 l0.length c0] w fun e w' => ∃ v0_ : Value, e = .returned (.tuple #[v0_, .bool r2]) ∧ Kd.R k34 34 w' w.heap.size (fun _ => True) v0_ r1 ∧ Below w.heap.size w w' := by
  have hu34 := Try.underlying34
  have HR0 := Aside0.mk hr0
  have HC0 := Aside0.mk hc0
  clear hr0 hc0
  have HB := Aside0.mk (Below.refl w.heap.size w)
  have H : (if (l0.length : Int) > 11 then (some (([] : List (S34)), false)) else (impl_FromRoots.l0 k (([(⟨(cn .f64 4607182418800017408), (cn .f64 0)⟩ : S34)] : List (S34))) l0 (l0.length : Int) 0)) = some (r1, r2) := h
  clear h
  by_cases c2 : (l0.length : Int) > 11
  · rw [if_pos c2] at H
    have c2b0 : decide (11 < (l0.length : Int)) = true := decide_eq_true c2
    have c2b1 : decide (11 < l0.length) = true := decide_eq_true (by omega)
    clear c2
    simp only [Option.some.injEq, Prod.mk.injEq] at H
    obtain ⟨rfl, rfl⟩ := H
    go_enter Try.func38, Try.ntmps38
    go_wp2
    go_ret2
    exact ⟨_, by first | rfl | (simp [errW_none, errW_some] <;> rfl) | (simp [*, errW_none, errW_some] <;> rfl), by first | exact Kd.R_nil _ _ _ _ _ | exact Kd.N_nil _ _ _ _ _ | exact Kd.V_nil _ _ _ _ _ | exact Kd.Q_nil _ _ _ _ _ | exact Kd.S_nil _ _ _ _ _, by repeat (first | (with_reducible first | exact HB.out | apply below_alloc | apply pw_below_drewN | apply below_drew1) | exact HB.out)⟩
  · rw [if_neg c2] at H
    have c2b0 : decide (11 < (l0.length : Int)) = false := decide_eq_false c2
    have c2b1 : decide (11 < l0.length) = false := decide_eq_false (by omega)
    clear c2
    obtain ⟨y177, hy177⟩ : ∃ y_ : List (S34), y_ = (([(⟨(cn .f64 4607182418800017408), (cn .f64 0)⟩ : S34)] : List (S34))) := ⟨_, rfl⟩
    replace H : (impl_FromRoots.l0 k y177 l0 (l0.length : Int) 0) = some (r1, r2) := by first | (rw [hy177]; with_reducible exact H) | (have H2_ := (Option.bind_some _ _).symm.trans H; rw [hy177]; with_reducible exact H2_) | (have H2_ := (Option.bind_some _ _).symm.trans H; with_reducible exact H2_) | with_reducible exact H | (rw [hy177]; exact H) | exact H
    have Ny177 := Aside0.mk hy177
    clear hy177
    have H' := Aside0.mk H
    clear H
    go_enter Try.func38, Try.ntmps38
    go_wp2_with (first | ((with_reducible refine gate_dst (N := 13) rfl ?_); refine Kd.R_lit k34 _ 34 ?hg (N := 13) ?hd (xs := ([(⟨(cn .f64 4607182418800017408), (cn .f64 0)⟩ : S34)] : List (S34))) (inner := [.float .f64 4607182418800017408, .float .f64 0]) (ok := fun _ => True) (okp := fun _ => True) ?hr ?hp (fun _ hk => hk) trivial (Below.refl _ _) (Nat.le_refl _) (by simp) ?_; (case hd => rfl); (case hg => rfl); (case hr => first | (go_simp; done) | (go_simp; rfl)); (case hp => exact (Reps.c2 (show Kd.M k34 _ _ _ (⟨(cn .f64 4607182418800017408), (cn .f64 0)⟩ : S34) [.float .f64 4607182418800017408, .float .f64 0] from (k34_mkM _ _ _ (⟨(cn .f64 4607182418800017408), (cn .f64 0)⟩ : S34) rfl rfl)) (Reps.none _ _))); intro v178 w3 ho4 hb hg_ hnew_; clear hg_ hnew_; (first | rw [← Ny177.out] at ho4 | (simp only [Int.reduceToNat] at ho4; rw [← Ny177.out] at ho4)); have n0_ := Aside0.mk (Kd.R_lower ho4 (below_size (by repeat (first | (with_reducible first | exact HB.out | apply below_alloc | apply pw_below_drewN | apply below_drew1) | exact HB.out)))); have n1_ := Aside0.mk (below_step (by repeat (first | (with_reducible first | exact HB.out | apply below_alloc | apply pw_below_drewN | apply below_drew1) | exact HB.out)) hb); clear HB; have HO179 := n0_; have HB := n1_; clear n0_ n1_; clear hb ho4))
    go_loopg [4, 16] k (fun kq v4 v16 w' => ∃ (x4_1 : List (S34)) (x16_1 : Int), v16 = .int .i64 x16_1 ∧ Aside0 (impl_FromRoots.l0 kq x4_1 l0 (l0.length : Int) x16_1 = some (r1, r2)) ∧ Aside0 (kq ≤ k) ∧ Aside0 (Kd.R k34 34 w' w.heap.size (fun _ => True) v4 x4_1) ∧ Aside0 (Below w.heap.size w w'))
    case atStart => exact ⟨(y177), (0), (by first | rfl | (simp; done) | (simp [*]; done)), H', ⟨Nat.le_refl _⟩, ⟨by (with_reducible repeat (first | apply Kd.R_alloc | apply Kd.R_drewN | apply Kd.R_drew)); exact HO179.out⟩, ⟨by repeat (first | (with_reducible first | exact HB.out | apply below_alloc | apply pw_below_drewN | apply below_drew1) | exact HB.out)⟩⟩
    case round =>
      clear H'
      try clear c2
      try clear c2b0
      try clear c2b1
      try clear p2
      try clear c3
      obtain ⟨x4_1, x16_1, rfl, HA, HK1, HO_4, HB⟩ := hrel
      cases gk with
      | zero => exact absurd HA.out (by simp [impl_FromRoots.l0])
      | succ k1 =>
        have H := HA.out
        clear HA
        simp only [impl_FromRoots.l0] at H
        by_cases c5 : x16_1 < (l0.length : Int)
        · rw [if_pos c5] at H
          have c5b0 : decide (x16_1 < (l0.length : Int)) = true := decide_eq_true c5
          clear c5
          by_cases c6 : 0 ≤ x16_1
          · rw [if_pos c6] at H
            have c6b0 : decide (0 ≤ x16_1) = true := decide_eq_true c6
            clear c6
            by_cases c7 : x16_1 < (l0.length : Int)
            · rw [if_pos c7] at H
              have c7b0 : decide (x16_1 < (l0.length : Int)) = true := decide_eq_true c7
              clear c7
              obtain ⟨fr180_0, hfr180_0⟩ : ∃ y_ : Fl, y_ = ((rd_T34 l0 x16_1).f0) := ⟨_, rfl⟩
              replace H : (if 0 < (x4_1.length : Int) then (impl_FromRoots.l1 k1 x4_1 (([(⟨((rd_T34 x4_1 0).f0), ((rd_T34 x4_1 0).f1)⟩ : S34)] : List (S34))) 1 l0 (l0.length : Int) x16_1 fr180_0 ((rd_T34 l0 x16_1).f1)) else (none)) = some (r1, r2) := by first | (rw [hfr180_0]; with_reducible exact H) | (have H2_ := (Option.bind_some _ _).symm.trans H; rw [hfr180_0]; with_reducible exact H2_) | (have H2_ := (Option.bind_some _ _).symm.trans H; with_reducible exact H2_) | with_reducible exact H | (rw [hfr180_0]; exact H) | exact H
              have Nfr180_0 := Aside0.mk hfr180_0
              clear hfr180_0
              obtain ⟨fr180_1, hfr180_1⟩ : ∃ y_ : Fl, y_ = ((rd_T34 l0 x16_1).f1) := ⟨_, rfl⟩
              replace H : (if 0 < (x4_1.length : Int) then (impl_FromRoots.l1 k1 x4_1 (([(⟨((rd_T34 x4_1 0).f0), ((rd_T34 x4_1 0).f1)⟩ : S34)] : List (S34))) 1 l0 (l0.length : Int) x16_1 fr180_0 fr180_1) else (none)) = some (r1, r2) := by first | (rw [hfr180_1]; with_reducible exact H) | (have H2_ := (Option.bind_some _ _).symm.trans H; rw [hfr180_1]; with_reducible exact H2_) | (have H2_ := (Option.bind_some _ _).symm.trans H; with_reducible exact H2_) | with_reducible exact H | (rw [hfr180_1]; exact H) | exact H
              have Nfr180_1 := Aside0.mk hfr180_1
              clear hfr180_1
              by_cases c8 : 0 < (x4_1.length : Int)
              · rw [if_pos c8] at H
                have c8b0 : decide (0 < (x4_1.length : Int)) = true := decide_eq_true c8
                have c8b1 : decide (0 < x4_1.length) = true := decide_eq_true (by omega)
                clear c8
                obtain ⟨fr182_0, hfr182_0⟩ : ∃ y_ : Fl, y_ = ((rd_T34 x4_1 0).f0) := ⟨_, rfl⟩
                replace H : (impl_FromRoots.l1 k1 x4_1 (([(⟨fr182_0, ((rd_T34 x4_1 0).f1)⟩ : S34)] : List (S34))) 1 l0 (l0.length : Int) x16_1 fr180_0 fr180_1) = some (r1, r2) := by first | (rw [hfr182_0]; with_reducible exact H) | (have H2_ := (Option.bind_some _ _).symm.trans H; rw [hfr182_0]; with_reducible exact H2_) | (have H2_ := (Option.bind_some _ _).symm.trans H; with_reducible exact H2_) | with_reducible exact H | (rw [hfr182_0]; exact H) | exact H
                have Nfr182_0 := Aside0.mk hfr182_0
                clear hfr182_0
                obtain ⟨fr182_1, hfr182_1⟩ : ∃ y_ : Fl, y_ = ((rd_T34 x4_1 0).f1) := ⟨_, rfl⟩
                replace H : (impl_FromRoots.l1 k1 x4_1 (([(⟨fr182_0, fr182_1⟩ : S34)] : List (S34))) 1 l0 (l0.length : Int) x16_1 fr180_0 fr180_1) = some (r1, r2) := by first | (rw [hfr182_1]; with_reducible exact H) | (have H2_ := (Option.bind_some _ _).symm.trans H; rw [hfr182_1]; with_reducible exact H2_) | (have H2_ := (Option.bind_some _ _).symm.trans H; with_reducible exact H2_) | with_reducible exact H | (rw [hfr182_1]; exact H) | exact H
                have Nfr182_1 := Aside0.mk hfr182_1
                clear hfr182_1
                obtain ⟨y183, hy183⟩ : ∃ y_ : List (S34), y_ = (([(⟨fr182_0, fr182_1⟩ : S34)] : List (S34))) := ⟨_, rfl⟩
                replace H : (impl_FromRoots.l1 k1 x4_1 y183 1 l0 (l0.length : Int) x16_1 fr180_0 fr180_1) = some (r1, r2) := by first | (rw [hy183]; with_reducible exact H) | (have H2_ := (Option.bind_some _ _).symm.trans H; rw [hy183]; with_reducible exact H2_) | (have H2_ := (Option.bind_some _ _).symm.trans H; with_reducible exact H2_) | with_reducible exact H | (rw [hy183]; exact H) | exact H
                have Ny183 := Aside0.mk hy183
                clear hy183
                have H' := Aside0.mk H
                clear H
                have p180 : 0 ≤ (x16_1 : Int) := of_decide_eq_true (by first | (with_reducible assumption) | assumption)
                have q180 : x16_1 < (l0.length : Int) := of_decide_eq_true (by first | (with_reducible assumption) | assumption)
                obtain ⟨ad180, b_fr180_0, b_fr180_1, e180, hx180_0, hx180_1, hF180_0, hF180_1⟩ := at_T34 HR0.out x16_1 p180 q180
                have hF_fr180_0 := hF180_0.trans Nfr180_0.out.symm
                clear hF180_0
                have hF_fr180_1 := hF180_1.trans Nfr180_1.out.symm
                clear hF180_1
                cases e180
                replace hx180_0 := (HB.out.cell (World.block_lt_of_cell? w _ hx180_0)).trans hx180_0
                replace hx180_1 := (HB.out.cell (World.block_lt_of_cell? w _ hx180_1)).trans hx180_1
                replace p180 := eq_true p180
                replace q180 := eq_true q180
                go_wp2_with (first | ((with_reducible refine gate_dst (N := 6) rfl ?_); refine box_event ?hg (N := 6) ?hd (cs := #[.float .f64 0, .float .f64 0]) (t := 34) ?hr ?_; (case hd => rfl); (case hg => rfl); (case hr => first | (go_simp; done) | (go_simp; rfl)); intro gb181 hg w9 hbox hb; have n0_ := Aside0.mk (Kd.R_below (Kd.R_elderB (by (with_reducible repeat (first | apply Kd.R_alloc | apply Kd.R_drewN | apply Kd.R_drew)); exact HO_4.out) gb181 (Nat.le_of_eq hg.symm)) hb); have n1_ := Aside0.mk (below_step (by repeat (first | (with_reducible first | exact HB.out | apply below_alloc | apply pw_below_drewN | apply below_drew1) | exact HB.out)) hb); have n2_ := Aside0.mk (hbox); have n3_ := Aside0.mk ((by rw [hg]; exact (below_size (by repeat (first | (with_reducible first | exact HB.out | apply below_alloc | apply pw_below_drewN | apply below_drew1) | exact HB.out))) : w.heap.size ≤ gb181)); have n4_ := Aside0.mk ((by rw [hg]; exact (below_size (by repeat (first | (with_reducible first | exact HB.out | apply below_alloc | apply pw_below_drewN | apply below_drew1) | exact HB.out))) : w.heap.size ≤ gb181)); clear HO_4; clear HB; have HO_4 := n0_; have HB := n1_; have BK181 := n2_; have GW181 := n3_; have GE181 := n4_; clear n0_ n1_ n2_ n3_ n4_; clear hb hbox hg; have hcz10_0 : w9.cell? ⟨gb181, 0, none⟩ = some (.float .f64 0) := (blk_cell BK181.out 0).trans rfl; have hcz10_1 : w9.cell? ⟨gb181, 1, none⟩ = some (.float .f64 0) := (blk_cell BK181.out 1).trans rfl; have hfz10_0 := blk_frozen BK181.out 0; have hfz10_1 := blk_frozen BK181.out 1; obtain ⟨Ao11, co11, eo11⟩ := Kd.R_slice HO_4.out; subst eo11; have p182 : 0 ≤ (0 : Int) := (by omega); have q182 : 0 < (x4_1.length : Int) := of_decide_eq_true (by first | (with_reducible assumption) | assumption); obtain ⟨ad182, b_fr182_0, b_fr182_1, e182, hx182_0, hx182_1, hF182_0, hF182_1⟩ := at_T34 (Kd.R_reads' HO_4.out).2.2 0 p182 q182; have hF_fr182_0 := hF182_0.trans Nfr182_0.out.symm; clear hF182_0; have hF_fr182_1 := hF182_1.trans Nfr182_1.out.symm; clear hF182_1; cases e182; have qi182 : (0 < x4_1.length) = True := eq_true (by omega); (try rw [show ((0 : Int)).toNat = 0 from rfl] at hx182_0); (try rw [show 0 * 2 = 0 from rfl] at hx182_0); (try rw [Addr.add_zero'] at hx182_0); (try rw [show ((0 : Int)).toNat = 0 from rfl] at hx182_1); (try rw [show 0 * 2 = 0 from rfl] at hx182_1); (try rw [Addr.add_zero'] at hx182_1); have hn182_0 : ad182.block ≠ gb181 := Kd.own_blk (Kd.R_away HO_4.out (fun _ hk => hk.2)); have hn182_1 : ad182.block ≠ gb181 := Kd.own_blk (Kd.R_away HO_4.out (fun _ hk => hk.2)); replace hx182_0 := (cell_far (p := ⟨gb181, 0, none⟩) (by first | (rw [add_block]; exact hn182_0) | (show (Addr.add _ _).block ≠ _; rw [add_block]; exact hn182_0) | exact hn182_0) (.float .f64 b_fr180_0)).trans hx182_0; replace hx182_1 := (cell_far (p := ⟨gb181, 0, none⟩) (by first | (rw [add_block]; exact hn182_0) | (show (Addr.add _ _).block ≠ _; rw [add_block]; exact hn182_0) | exact hn182_0) (.float .f64 b_fr180_0)).trans hx182_1; replace hx182_0 := (cell_far (p := ⟨gb181, 1, none⟩) (by first | (rw [add_block]; exact hn182_1) | (show (Addr.add _ _).block ≠ _; rw [add_block]; exact hn182_1) | exact hn182_1) (.float .f64 b_fr180_1)).trans hx182_0; replace hx182_1 := (cell_far (p := ⟨gb181, 1, none⟩) (by first | (rw [add_block]; exact hn182_1) | (show (Addr.add _ _).block ≠ _; rw [add_block]; exact hn182_1) | exact hn182_1) (.float .f64 b_fr180_1)).trans hx182_1; clear hn182_0; clear hn182_1; replace p182 := eq_true p182; replace q182 := eq_true q182) | ((with_reducible refine gate_dst (N := 23) rfl ?_); refine Kd.R_lit k34 _ 34 ?hg (N := 23) ?hd (xs := ([(⟨fr182_0, fr182_1⟩ : S34)] : List (S34))) (inner := [.float .f64 b_fr182_0, .float .f64 b_fr182_1]) (ok := fun _ => True) (okp := fun _ => True) ?hr ?hp (fun _ hk => hk) trivial (Below.refl _ _) (Nat.le_refl _) (by simp) ?_; (case hd => rfl); (case hg => rfl); (case hr => first | (go_simp; done) | (go_simp; rfl)); (case hp => exact (Reps.c2 (show Kd.M k34 _ _ _ (⟨fr182_0, fr182_1⟩ : S34) [.float .f64 b_fr182_0, .float .f64 b_fr182_1] from (k34_mkM _ _ _ (⟨fr182_0, fr182_1⟩ : S34) hF_fr182_0 hF_fr182_1)) (Reps.none _ _))); intro v184 w12 ho13 hb hg_ hnew_; clear hg_ hnew_; (first | rw [← Ny183.out] at ho13 | (simp only [Int.reduceToNat] at ho13; rw [← Ny183.out] at ho13)); have n0_ := Aside0.mk (Kd.R_elder' (by (with_reducible repeat (first | apply Kd.R_alloc | apply Kd.R_drewN | apply Kd.R_drew)); exact (Kd.R_mono (Kd.R_far (p := ⟨gb181, 1, none⟩) (Kd.R_far (p := ⟨gb181, 0, none⟩) (Kd.R_mono HO_4.out (fun k_ hk => (⟨hk, hk.2⟩ : _ ∧ k_ ≠ gb181))) (fun _ hk => hk.2) (.float .f64 b_fr180_0)) (fun _ hk => hk.2) (.float .f64 b_fr180_1)) (fun _ h_ => h_.1))) (Kd.R_base ho13) hb); have n1_ := Aside0.mk (Kd.R_lower (Kd.R_newB (Kd.R_new' ho13 (Kd.R_lt (by (with_reducible repeat (first | apply Kd.R_alloc | apply Kd.R_drewN | apply Kd.R_drew)); exact (Kd.R_mono (Kd.R_far (p := ⟨gb181, 1, none⟩) (Kd.R_far (p := ⟨gb181, 0, none⟩) (Kd.R_mono HO_4.out (fun k_ hk => (⟨hk, hk.2⟩ : _ ∧ k_ ≠ gb181))) (fun _ hk => hk.2) (.float .f64 b_fr180_0)) (fun _ hk => hk.2) (.float .f64 b_fr180_1)) (fun _ h_ => h_.1))))) (g := gb181) (o := .cells #[.float .f64 b_fr180_0, .float .f64 b_fr180_1] 34 (0, 0)) (by (with_reducible repeat (first | refine blk_drewN ?_ _ | refine blk_drew ?_ | refine blk_alloc ?_ _)); refine blk_put (cs := #[.float .f64 b_fr180_0, .float .f64 0]) ?_ 1 _ rfl; (with_reducible repeat (first | refine blk_drewN ?_ _ | refine blk_drew ?_ | refine blk_alloc ?_ _)); refine blk_put (cs := #[.float .f64 0, .float .f64 0]) ?_ 0 _ rfl; (with_reducible repeat (first | refine blk_drewN ?_ _ | refine blk_drew ?_ | refine blk_alloc ?_ _)); exact BK181.out)) (below_size (by repeat (first | (with_reducible first | exact HB.out | apply below_alloc | apply pw_below_drewN | apply below_drew1 | refine below_set ?_ GE181.out) | exact HB.out)))); have n2_ := Aside0.mk (blk_below (g := gb181) (o := .cells #[.float .f64 b_fr180_0, .float .f64 b_fr180_1] 34 (0, 0)) (by (with_reducible repeat (first | refine blk_drewN ?_ _ | refine blk_drew ?_ | refine blk_alloc ?_ _)); refine blk_put (cs := #[.float .f64 b_fr180_0, .float .f64 0]) ?_ 1 _ rfl; (with_reducible repeat (first | refine blk_drewN ?_ _ | refine blk_drew ?_ | refine blk_alloc ?_ _)); refine blk_put (cs := #[.float .f64 0, .float .f64 0]) ?_ 0 _ rfl; (with_reducible repeat (first | refine blk_drewN ?_ _ | refine blk_drew ?_ | refine blk_alloc ?_ _)); exact BK181.out) hb); have n3_ := Aside0.mk (below_step (by repeat (first | (with_reducible first | exact HB.out | apply below_alloc | apply pw_below_drewN | apply below_drew1 | refine below_set ?_ GE181.out) | exact HB.out)) hb); clear HO_4; clear BK181; clear HB; have HO_4 := n0_; have HO185 := n1_; have BK181 := n2_; have HB := n3_; clear n0_ n1_ n2_ n3_; clear hb ho13))
                go_loopg [7, 8] k1 (fun kq v7 v8 w' => ∃ (x7_2 : List (S34)) (x8_2 : Int), v8 = .int .i64 x8_2 ∧ Aside0 (impl_FromRoots.l1 kq x4_1 x7_2 x8_2 l0 (l0.length : Int) x16_1 fr180_0 fr180_1 = some (r1, r2)) ∧ Aside0 (kq ≤ k1) ∧ Aside0 (Kd.R k34 34 w' w.heap.size (fun k_ => some k_ ≠ (v7 : Value).ownBlock ∧ k_ ≠ gb181) (.slice (some ad182) x4_1.length co11) x4_1) ∧ Aside0 (Kd.R k34 34 w' w.heap.size (fun k_ => some k_ ≠ ((.slice (some ad182) x4_1.length co11) : Value).ownBlock ∧ k_ ≠ gb181) v7 x7_2) ∧ Aside0 (w'.heap[gb181]? = some (.cells #[.float .f64 b_fr180_0, .float .f64 b_fr180_1] 34 (0, 0))) ∧ Aside0 (Below w.heap.size w w'))
                case atStart => exact ⟨(y183), (1), (by first | rfl | (simp; done) | (simp [*]; done)), H', ⟨Nat.le_refl _⟩, ⟨by (with_reducible repeat (first | apply Kd.R_alloc | apply Kd.R_drewN | apply Kd.R_drew)); exact Kd.R_mono HO_4.out (fun _ hk => ⟨hk.2, hk.1.2⟩)⟩, ⟨by (with_reducible repeat (first | apply Kd.R_alloc | apply Kd.R_drewN | apply Kd.R_drew)); exact Kd.R_mono HO185.out (fun _ hk => ⟨hk.1.2, hk.2⟩)⟩, ⟨by (with_reducible repeat (first | refine blk_drewN ?_ _ | refine blk_drew ?_ | refine blk_alloc ?_ _)); exact BK181.out⟩, ⟨by repeat (first | (with_reducible first | exact HB.out | apply below_alloc | apply pw_below_drewN | apply below_drew1 | refine below_set ?_ GE181.out) | exact HB.out)⟩⟩
                case round =>
                  clear H'
                  try clear p1
                  try clear q1
                  try clear hx1
                  try clear qi1
                  try clear c2
                  try clear c2b0
                  try clear c2b1
                  try clear p2
                  try clear c3
                  try clear c5
                  try clear c5b0
                  try clear c6
                  try clear c6b0
                  try clear c7
                  try clear c7b0
                  try clear c8
                  try clear c8b0
                  try clear c8b1
                  try clear hcz10_0
                  try clear hcz10_1
                  try clear hfz10_0
                  try clear hfz10_1
                  try clear hx180_0
                  try clear hx180_1
                  try clear hx182_0
                  try clear hx182_1
                  try clear p180
                  try clear p182
                  try clear p2
                  try clear q180
                  try clear q182
                  obtain ⟨x7_2, x8_2, rfl, HA, HK2, HO_4, HO_7, BK181, HB⟩ := hrel
                  cases gk with
                  | zero => exact absurd HA.out (by simp [impl_FromRoots.l1])
                  | succ k2 =>
                    have H := HA.out
                    clear HA
                    simp only [impl_FromRoots.l1] at H
                    by_cases c14 : x8_2 < (x4_1.length : Int)
                    · rw [if_pos c14] at H
                      have c14b0 : decide (x8_2 < (x4_1.length : Int)) = true := decide_eq_true c14
                      clear c14
                      by_cases c15 : 0 ≤ x8_2
                      · rw [if_pos c15] at H
                        have c15b0 : decide (0 ≤ x8_2) = true := decide_eq_true c15
                        clear c15
                        obtain ⟨fr186_0, hfr186_0⟩ : ∃ y_ : Fl, y_ = ((rd_T34 x4_1 x8_2).f0) := ⟨_, rfl⟩
                        replace H : (if 0 ≤ (wrap64 (x8_2 - 1)) then (if (wrap64 (x8_2 - 1)) < (x4_1.length : Int) then ((impl_CxTimes.f ((rd_T34 x4_1 (wrap64 (x8_2 - 1))).f0) ((rd_T34 x4_1 (wrap64 (x8_2 - 1))).f1) fr180_0 fr180_1).bind fun bt188 => ((impl_CxLess.f fr186_0 ((rd_T34 x4_1 x8_2).f1) bt188.1 bt188.2).bind fun bt190 => (if x7_2.length < 8796093022208 then (impl_FromRoots.l1 k2 x4_1 (x7_2 ++ [(⟨bt190.1, bt190.2⟩ : S34)]) (wrap64 (x8_2 + 1)) l0 (l0.length : Int) x16_1 fr180_0 fr180_1) else (none)))) else (none)) else (none)) = some (r1, r2) := by first | (rw [hfr186_0]; with_reducible exact H) | (have H2_ := (Option.bind_some _ _).symm.trans H; rw [hfr186_0]; with_reducible exact H2_) | (have H2_ := (Option.bind_some _ _).symm.trans H; with_reducible exact H2_) | with_reducible exact H | (rw [hfr186_0]; exact H) | exact H
                        have Nfr186_0 := Aside0.mk hfr186_0
                        clear hfr186_0
                        obtain ⟨fr186_1, hfr186_1⟩ : ∃ y_ : Fl, y_ = ((rd_T34 x4_1 x8_2).f1) := ⟨_, rfl⟩
                        replace H : (if 0 ≤ (wrap64 (x8_2 - 1)) then (if (wrap64 (x8_2 - 1)) < (x4_1.length : Int) then ((impl_CxTimes.f ((rd_T34 x4_1 (wrap64 (x8_2 - 1))).f0) ((rd_T34 x4_1 (wrap64 (x8_2 - 1))).f1) fr180_0 fr180_1).bind fun bt188 => ((impl_CxLess.f fr186_0 fr186_1 bt188.1 bt188.2).bind fun bt190 => (if x7_2.length < 8796093022208 then (impl_FromRoots.l1 k2 x4_1 (x7_2 ++ [(⟨bt190.1, bt190.2⟩ : S34)]) (wrap64 (x8_2 + 1)) l0 (l0.length : Int) x16_1 fr180_0 fr180_1) else (none)))) else (none)) else (none)) = some (r1, r2) := by first | (rw [hfr186_1]; with_reducible exact H) | (have H2_ := (Option.bind_some _ _).symm.trans H; rw [hfr186_1]; with_reducible exact H2_) | (have H2_ := (Option.bind_some _ _).symm.trans H; with_reducible exact H2_) | with_reducible exact H | (rw [hfr186_1]; exact H) | exact H
                        have Nfr186_1 := Aside0.mk hfr186_1
                        clear hfr186_1
                        obtain ⟨ji16, hji16⟩ : ∃ j_ : Int, (wrap64 (x8_2 - 1)) = j_ := ⟨_, rfl⟩
                        replace H : (if 0 ≤ (ji16) then (if (ji16) < (x4_1.length : Int) then ((impl_CxTimes.f ((rd_T34 x4_1 (ji16)).f0) ((rd_T34 x4_1 (ji16)).f1) fr180_0 fr180_1).bind fun bt188 => ((impl_CxLess.f fr186_0 fr186_1 bt188.1 bt188.2).bind fun bt190 => (if x7_2.length < 8796093022208 then (impl_FromRoots.l1 k2 x4_1 (x7_2 ++ [(⟨bt190.1, bt190.2⟩ : S34)]) (wrap64 (x8_2 + 1)) l0 (l0.length : Int) x16_1 fr180_0 fr180_1) else (none)))) else (none)) else (none)) = some (r1, r2) := by first | (rw [hji16] at H; exact H) | (simp only [hji16] at H ⊢; exact H)
                        have hji16w : (IntKind.i64.wrap (x8_2 - 1)) = ji16 := (i64_w _).trans hji16
                        by_cases c17 : 0 ≤ (ji16)
                        · rw [if_pos c17] at H
                          have c17b0 : decide (0 ≤ (ji16)) = true := decide_eq_true c17
                          clear c17
                          by_cases c18 : (ji16) < (x4_1.length : Int)
                          · rw [if_pos c18] at H
                            have c18b0 : decide ((ji16) < (x4_1.length : Int)) = true := decide_eq_true c18
                            clear c18
                            obtain ⟨fr187_0, hfr187_0⟩ : ∃ y_ : Fl, y_ = ((rd_T34 x4_1 (ji16)).f0) := ⟨_, rfl⟩
                            replace H : ((impl_CxTimes.f fr187_0 ((rd_T34 x4_1 (ji16)).f1) fr180_0 fr180_1).bind fun bt188 => ((impl_CxLess.f fr186_0 fr186_1 bt188.1 bt188.2).bind fun bt190 => (if x7_2.length < 8796093022208 then (impl_FromRoots.l1 k2 x4_1 (x7_2 ++ [(⟨bt190.1, bt190.2⟩ : S34)]) (wrap64 (x8_2 + 1)) l0 (l0.length : Int) x16_1 fr180_0 fr180_1) else (none)))) = some (r1, r2) := by first | (rw [hfr187_0]; with_reducible exact H) | (have H2_ := (Option.bind_some _ _).symm.trans H; rw [hfr187_0]; with_reducible exact H2_) | (have H2_ := (Option.bind_some _ _).symm.trans H; with_reducible exact H2_) | with_reducible exact H | (rw [hfr187_0]; exact H) | exact H
                            have Nfr187_0 := Aside0.mk hfr187_0
                            clear hfr187_0
                            obtain ⟨fr187_1, hfr187_1⟩ : ∃ y_ : Fl, y_ = ((rd_T34 x4_1 (ji16)).f1) := ⟨_, rfl⟩
                            replace H : ((impl_CxTimes.f fr187_0 fr187_1 fr180_0 fr180_1).bind fun bt188 => ((impl_CxLess.f fr186_0 fr186_1 bt188.1 bt188.2).bind fun bt190 => (if x7_2.length < 8796093022208 then (impl_FromRoots.l1 k2 x4_1 (x7_2 ++ [(⟨bt190.1, bt190.2⟩ : S34)]) (wrap64 (x8_2 + 1)) l0 (l0.length : Int) x16_1 fr180_0 fr180_1) else (none)))) = some (r1, r2) := by first | (rw [hfr187_1]; with_reducible exact H) | (have H2_ := (Option.bind_some _ _).symm.trans H; rw [hfr187_1]; with_reducible exact H2_) | (have H2_ := (Option.bind_some _ _).symm.trans H; with_reducible exact H2_) | with_reducible exact H | (rw [hfr187_1]; exact H) | exact H
                            have Nfr187_1 := Aside0.mk hfr187_1
                            clear hfr187_1
                            replace H := Option.bind_eq_some_iff.mp H
                            obtain ⟨⟨t188, t189⟩, A190, H⟩ := H
                            replace H : ((impl_CxLess.f fr186_0 fr186_1 t188 t189).bind fun bt190 => (if x7_2.length < 8796093022208 then (impl_FromRoots.l1 k2 x4_1 (x7_2 ++ [(⟨bt190.1, bt190.2⟩ : S34)]) (wrap64 (x8_2 + 1)) l0 (l0.length : Int) x16_1 fr180_0 fr180_1) else (none))) = some (r1, r2) := H
                            have A19 := Aside0.mk A190
                            clear A190
                            replace H := Option.bind_eq_some_iff.mp H
                            obtain ⟨⟨t190, t191⟩, A200, H⟩ := H
                            replace H : (if x7_2.length < 8796093022208 then (impl_FromRoots.l1 k2 x4_1 (x7_2 ++ [(⟨t190, t191⟩ : S34)]) (wrap64 (x8_2 + 1)) l0 (l0.length : Int) x16_1 fr180_0 fr180_1) else (none)) = some (r1, r2) := H
                            have A20 := Aside0.mk A200
                            clear A200
                            by_cases c21 : x7_2.length < 8796093022208
                            · rw [if_pos c21] at H
                              have LMc21 := Aside0.mk c21
                              clear c21
                              obtain ⟨y192, hy192⟩ : ∃ y_ : List (S34), y_ = (x7_2 ++ [(⟨t190, t191⟩ : S34)]) := ⟨_, rfl⟩
                              replace H : (impl_FromRoots.l1 k2 x4_1 y192 (wrap64 (x8_2 + 1)) l0 (l0.length : Int) x16_1 fr180_0 fr180_1) = some (r1, r2) := by first | (rw [hy192]; with_reducible exact H) | (have H2_ := (Option.bind_some _ _).symm.trans H; rw [hy192]; with_reducible exact H2_) | (have H2_ := (Option.bind_some _ _).symm.trans H; with_reducible exact H2_) | with_reducible exact H | (rw [hy192]; exact H) | exact H
                              have Ny192 := Aside0.mk hy192
                              clear hy192
                              have H' := Aside0.mk H
                              clear H
                              try go_wp2
                              have n0_ := Aside0.mk (Kd.R_drew HO_4.out)
                              have n1_ := Aside0.mk (Kd.R_drew HO_7.out)
                              have n2_ := Aside0.mk (blk_drew BK181.out)
                              have n3_ := Aside0.mk (below_drew1 HB.out)
                              clear HO_4
                              clear HO_7
                              clear BK181
                              clear HB
                              have HO_4 := n0_
                              have HO_7 := n1_
                              have BK181 := n2_
                              have HB := n3_
                              clear n0_ n1_ n2_ n3_
                              have p186 : 0 ≤ (x8_2 : Int) := of_decide_eq_true (by first | (with_reducible assumption) | assumption)
                              have q186 : x8_2 < (x4_1.length : Int) := of_decide_eq_true (by first | (with_reducible assumption) | assumption)
                              obtain ⟨ad186, b_fr186_0, b_fr186_1, e186, hx186_0, hx186_1, hF186_0, hF186_1⟩ := at_T34 (Kd.R_reads' HO_4.out).2.2 x8_2 p186 q186
                              have hF_fr186_0 := hF186_0.trans Nfr186_0.out.symm
                              clear hF186_0
                              have hF_fr186_1 := hF186_1.trans Nfr186_1.out.symm
                              clear hF186_1
                              obtain rfl : ad182 = ad186 := (by injection e186)
                              replace p186 := eq_true p186
                              replace q186 := eq_true q186
                              have p187 : 0 ≤ ((ji16) : Int) := of_decide_eq_true (by first | (with_reducible assumption) | assumption)
                              have q187 : (ji16) < (x4_1.length : Int) := of_decide_eq_true (by first | (with_reducible assumption) | assumption)
                              obtain ⟨ad187, b_fr187_0, b_fr187_1, e187, hx187_0, hx187_1, hF187_0, hF187_1⟩ := at_T34 (Kd.R_reads' HO_4.out).2.2 (ji16) p187 q187
                              have hF_fr187_0 := hF187_0.trans Nfr187_0.out.symm
                              clear hF187_0
                              have hF_fr187_1 := hF187_1.trans Nfr187_1.out.symm
                              clear hF187_1
                              obtain rfl : ad182 = ad187 := (by injection e187)
                              replace p187 := eq_true p187
                              replace q187 := eq_true q187
                              refine start_ (n := 16) (S := fun w' => w'.cell? ⟨gb181, 0, none⟩ = some (.float .f64 b_fr180_0) ∧ w'.cell? ⟨gb181, 1, none⟩ = some (.float .f64 b_fr180_1) ∧ w'.cell? (ad182.add ((x8_2).toNat * 2)) = some (.float .f64 b_fr186_0) ∧ w'.cell? ⟨(ad182.add ((x8_2).toNat * 2)).block, (ad182.add ((x8_2).toNat * 2)).off + 1, none⟩ = some (.float .f64 b_fr186_1) ∧ w'.cell? (ad182.add (((ji16)).toNat * 2)) = some (.float .f64 b_fr187_0) ∧ w'.cell? ⟨(ad182.add (((ji16)).toNat * 2)).block, (ad182.add (((ji16)).toNat * 2)).off + 1, none⟩ = some (.float .f64 b_fr187_1)) (ds := [13, 14]) #[false, false, false, false, false, false, false, false, false, false, false, false, false, false, false, false] (by kernel_rfl) rfl rfl ⟨(blk_cell BK181.out 0).trans rfl, (blk_cell BK181.out 1).trans rfl, hx186_0, hx186_1, hx187_0, hx187_1⟩ (fun hHeld => ?_); refine with_tabW impl_FromRoots.tab11 impl_FromRoots.bits11 (fun HT_ HW_ => ?_)
                              generalize wr.drew = w22 at HO_4 HO_7 BK181 HB hx186_0 hx186_1 hx187_0 hx187_1 hHeld ⊢
                              refine pure_ (i := 0) (N := some 30) (v := ?_) (a' := ?_) #[true, false, false, false, false, false, false, false, false, false, false, false, false, false, false, false] rfl rfl (any_of HT_.out (by kernel_rfl)) (fun _ _ _ h => h) (Or.inl ⟨by rfl, ?_⟩) ?_ ?_
                              rotate_left
                              · intro w'
                                go_simp
                                with_reducible rfl
                              rotate_left
                              · simp only [Act.put, List.setIfInBounds_toArray, List.set_cons_zero, List.set_cons_succ, i64_w, i32_w]
                                rfl
                              refine pure_ (i := 1) (N := some 31) (v := ?_) (a' := ?_) #[true, true, false, false, false, false, false, false, false, false, false, false, false, false, false, false] rfl rfl (any_of HT_.out (by kernel_rfl)) (fun _ _ _ h => h) (Or.inl ⟨by rfl, ?_⟩) ?_ ?_
                              rotate_left
                              · intro w'
                                go_simp
                                with_reducible rfl
                              rotate_left
                              · simp only [Act.put, List.setIfInBounds_toArray, List.set_cons_zero, List.set_cons_succ, i64_w, i32_w]
                                rfl
                              refine pure_ (i := 2) (N := some 32) (v := ?_) (a' := ?_) #[true, true, true, false, false, false, false, false, false, false, false, false, false, false, false, false] rfl rfl (any_of HT_.out (by kernel_rfl)) (fun _ _ _ h => h) (Or.inl ⟨by rfl, ?_⟩) ?_ ?_
                              rotate_left
                              · intro w'
                                go_simp
                                with_reducible rfl
                              rotate_left
                              · simp only [Act.put, List.setIfInBounds_toArray, List.set_cons_zero, List.set_cons_succ, i64_w, i32_w]
                                rfl
                              refine pure_ (i := 3) (N := some 33) (v := ?_) (a' := ?_) #[true, true, true, true, false, false, false, false, false, false, false, false, false, false, false, false] rfl rfl (any_of HT_.out (by kernel_rfl)) (fun _ _ _ h => h) (Or.inl ⟨by rfl, ?_⟩) ?_ ?_
                              rotate_left
                              · intro w'
                                go_simp
                                with_reducible rfl
                              rotate_left
                              · simp only [Act.put, List.setIfInBounds_toArray, List.set_cons_zero, List.set_cons_succ, i64_w, i32_w]
                                rfl
                              refine pure_ (i := 5) (N := some 35) (v := ?_) (a' := ?_) #[true, true, true, true, false, true, false, false, false, false, false, false, false, false, false, false] rfl rfl (any_of HT_.out (by kernel_rfl)) (fun _ _ _ h => h) (Or.inl ⟨by rfl, ?_⟩) ?_ ?_
                              rotate_left
                              · intro w'
                                go_simp
                                with_reducible rfl
                              rotate_left
                              · simp only [Act.put, List.setIfInBounds_toArray, List.set_cons_zero, List.set_cons_succ, i64_w, i32_w]
                                rfl
                              refine pure_ (i := 6) (N := some 36) (v := ?_) (a' := ?_) #[true, true, true, true, false, true, true, false, false, false, false, false, false, false, false, false] rfl rfl (any_of HT_.out (by kernel_rfl)) (fun _ _ _ h => h) (Or.inl ⟨by rfl, ?_⟩) ?_ ?_
                              rotate_left
                              · intro w'
                                go_simp
                                with_reducible rfl
                              rotate_left
                              · simp only [Act.put, List.setIfInBounds_toArray, List.set_cons_zero, List.set_cons_succ, i64_w, i32_w]
                                rfl
                              refine pure_ (i := 7) (N := some 37) (v := ?_) (a' := ?_) #[true, true, true, true, false, true, true, true, false, false, false, false, false, false, false, false] rfl rfl (any_of HT_.out (by kernel_rfl)) (fun _ _ _ h => h) (Or.inl ⟨by rfl, ?_⟩) ?_ ?_
                              rotate_left
                              · intro w'
                                go_simp
                                with_reducible rfl
                              rotate_left
                              · simp only [Act.put, List.setIfInBounds_toArray, List.set_cons_zero, List.set_cons_succ, i64_w, i32_w]
                                rfl
                              refine pure_ (i := 8) (N := some 38) (v := ?_) (a' := ?_) #[true, true, true, true, false, true, true, true, true, false, false, false, false, false, false, false] rfl rfl (any_of HT_.out (by kernel_rfl)) (fun _ _ _ h => h) (Or.inl ⟨by rfl, ?_⟩) ?_ ?_
                              rotate_left
                              · intro w'
                                go_simp
                                with_reducible rfl
                              rotate_left
                              · simp only [Act.put, List.setIfInBounds_toArray, List.set_cons_zero, List.set_cons_succ, i64_w, i32_w]
                                rfl
                              refine take_ (i := 4) (N := some 34) (v := ?_) (a' := ?_) #[true, true, true, true, true, true, true, true, true, false, false, false, false, false, false, false] rfl rfl (take_ofW HT_.out HW_.out (by kernel_rfl)) (fun _ _ _ h => h) (Or.inl ⟨by rfl, ?_⟩) hHeld ?_ ?_
                              rotate_left
                              · rintro w' ⟨s0, s1, s2, s3, s4, s5⟩
                                go_simp
                                with_reducible rfl
                              rotate_left
                              · simp only [Act.put, List.setIfInBounds_toArray, List.set_cons_zero, List.set_cons_succ, i64_w, i32_w]
                                rfl
                              refine take_ (i := 9) (N := some 39) (v := ?_) (a' := ?_) #[true, true, true, true, true, true, true, true, true, true, false, false, false, false, false, false] rfl rfl (take_ofW HT_.out HW_.out (by kernel_rfl)) (fun _ _ _ h => h) (Or.inl ⟨by rfl, ?_⟩) hHeld ?_ ?_
                              rotate_left
                              · rintro w' ⟨s0, s1, s2, s3, s4, s5⟩
                                go_simp
                                with_reducible rfl
                              rotate_left
                              · simp only [Act.put, List.setIfInBounds_toArray, List.set_cons_zero, List.set_cons_succ, i64_w, i32_w]
                                rfl
                              refine take_ (i := 10) (N := some 40) (v := ?_) (a' := ?_) #[true, true, true, true, true, true, true, true, true, true, true, false, false, false, false, false] rfl rfl (take_ofW HT_.out HW_.out (by kernel_rfl)) (fun _ _ _ h => h) (Or.inl ⟨by rfl, ?_⟩) hHeld ?_ ?_
                              rotate_left
                              · rintro w' ⟨s0, s1, s2, s3, s4, s5⟩
                                go_simp
                                with_reducible rfl
                              rotate_left
                              · simp only [Act.put, List.setIfInBounds_toArray, List.set_cons_zero, List.set_cons_succ, i64_w, i32_w]
                                rfl
                              refine one_ (i := 11) (N := some 41) #[true, true, true, true, true, true, true, true, true, true, true, true, false, false, false, false] rfl rfl (one_of HT_.out (by kernel_rfl)) (by decide) (fun K hK => ?_)
                              refine goes_ Try.func51 (by kernel_rfl) rfl #[.agg #[.float .f64 b_fr187_0, .float .f64 b_fr187_1], .agg #[.float .f64 b_fr180_0, .float .f64 b_fr180_1]] (by rfl) rfl rfl (by (try simp only [List.map_toArray, List.map_cons, List.map_nil]); first | done | rfl | (simp only [List.length_drop, List.length_take]; rfl)) ?_
                              with_reducible refine (impl_CxTimes.calls b_fr187_0 fr187_0 b_fr187_1 fr187_1 b_fr180_0 fr180_0 b_fr180_1 fr180_1 t188 t189 _ ?side1 ?side2 ?side3 ?side4 A19.out).mono ?_
                              (case side1 => exact hF_fr187_0)
                              (case side2 => exact hF_fr187_1)
                              (case side3 => exact hF_fr180_0)
                              (case side4 => exact hF_fr180_1)
                              rintro e w23 ⟨b_t188, b_t189, rfl, hF_t188, hF_t189, hb⟩
                              have HS2_ := (hb.cell (World.block_lt_of_cell? _ _ (hHeld.2.2.1))).trans (hHeld.2.2.1)
                              have HS3_ := (hb.cell (World.block_lt_of_cell? _ _ (hHeld.2.2.2.1))).trans (hHeld.2.2.2.1)
                              have HS4_ := (hb.cell (World.block_lt_of_cell? _ _ (hHeld.2.2.2.2.1))).trans (hHeld.2.2.2.2.1)
                              have HS5_ := (hb.cell (World.block_lt_of_cell? _ _ (hHeld.2.2.2.2.2))).trans (hHeld.2.2.2.2.2)
                              refine ⟨_, rfl, ?_⟩
                              have n0_ := Aside0.mk (Kd.R_below (by (with_reducible repeat (first | apply Kd.R_alloc | apply Kd.R_drewN | apply Kd.R_drew)); exact HO_4.out) hb)
                              have n1_ := Aside0.mk (Kd.R_below (by (with_reducible repeat (first | apply Kd.R_alloc | apply Kd.R_drewN | apply Kd.R_drew)); exact HO_7.out) hb)
                              have n2_ := Aside0.mk (blk_below (g := gb181) (o := .cells #[.float .f64 b_fr180_0, .float .f64 b_fr180_1] 34 (0, 0)) (by (with_reducible repeat (first | refine blk_drewN ?_ _ | refine blk_drew ?_ | refine blk_alloc ?_ _)); exact BK181.out) hb)
                              have n3_ := Aside0.mk (below_step (by repeat (first | (with_reducible first | exact HB.out | apply below_alloc | apply pw_below_drewN | apply below_drew1 | refine below_set ?_ GE181.out) | exact HB.out)) hb)
                              clear HO_4
                              clear HO_7
                              clear BK181
                              clear HB
                              have HO_4 := n0_
                              have HO_7 := n1_
                              have BK181 := n2_
                              have HB := n3_
                              clear n0_ n1_ n2_ n3_
                              (try clear hb)
                              (try clear hb2)
                              (try clear hk)
                              (try clear hi)
                              refine hK.out _ _ ⟨(blk_cell BK181.out 0).trans rfl, (blk_cell BK181.out 1).trans rfl, HS2_, HS3_, HS4_, HS5_⟩ (fun hHeld => ?_)
                              clear hK K
                              refine norm_ (a' := ?_) ?_ ?_
                              rotate_left
                              · show Act.put _ (some 41) _ = _
                                simp only [Act.put, List.setIfInBounds_toArray, List.set_cons_zero, List.set_cons_succ, i64_w, i32_w]
                                rfl
                              refine one_ (i := 12) (N := some 42) #[true, true, true, true, true, true, true, true, true, true, true, true, true, false, false, false] rfl rfl (one_of HT_.out (by kernel_rfl)) (by decide) (fun K hK => ?_)
                              refine goes_ Try.func54 (by kernel_rfl) rfl #[.agg #[.float .f64 b_fr186_0, .float .f64 b_fr186_1], .agg #[.float .f64 b_t188, .float .f64 b_t189]] (by rfl) rfl rfl (by (try simp only [List.map_toArray, List.map_cons, List.map_nil]); first | done | rfl | (simp only [List.length_drop, List.length_take]; rfl)) ?_
                              with_reducible refine (impl_CxLess.calls b_fr186_0 fr186_0 b_fr186_1 fr186_1 b_t188 t188 b_t189 t189 t190 t191 _ ?side1 ?side2 ?side3 ?side4 A20.out).mono ?_
                              (case side1 => exact hF_fr186_0)
                              (case side2 => exact hF_fr186_1)
                              (case side3 => exact hF_t188)
                              (case side4 => exact hF_t189)
                              rintro e w24 ⟨b_t190, b_t191, rfl, hF_t190, hF_t191, hb⟩
                              have HS2_ := (hb.cell (World.block_lt_of_cell? _ _ (hHeld.2.2.1))).trans (hHeld.2.2.1)
                              have HS3_ := (hb.cell (World.block_lt_of_cell? _ _ (hHeld.2.2.2.1))).trans (hHeld.2.2.2.1)
                              have HS4_ := (hb.cell (World.block_lt_of_cell? _ _ (hHeld.2.2.2.2.1))).trans (hHeld.2.2.2.2.1)
                              have HS5_ := (hb.cell (World.block_lt_of_cell? _ _ (hHeld.2.2.2.2.2))).trans (hHeld.2.2.2.2.2)
                              refine ⟨_, rfl, ?_⟩
                              have n0_ := Aside0.mk (Kd.R_below (by (with_reducible repeat (first | apply Kd.R_alloc | apply Kd.R_drewN | apply Kd.R_drew)); exact HO_4.out) hb)
                              have n1_ := Aside0.mk (Kd.R_below (by (with_reducible repeat (first | apply Kd.R_alloc | apply Kd.R_drewN | apply Kd.R_drew)); exact HO_7.out) hb)
                              have n2_ := Aside0.mk (blk_below (g := gb181) (o := .cells #[.float .f64 b_fr180_0, .float .f64 b_fr180_1] 34 (0, 0)) (by (with_reducible repeat (first | refine blk_drewN ?_ _ | refine blk_drew ?_ | refine blk_alloc ?_ _)); exact BK181.out) hb)
                              have n3_ := Aside0.mk (below_step (by repeat (first | (with_reducible first | exact HB.out | apply below_alloc | apply pw_below_drewN | apply below_drew1 | refine below_set ?_ GE181.out) | exact HB.out)) hb)
                              clear HO_4
                              clear HO_7
                              clear BK181
                              clear HB
                              have HO_4 := n0_
                              have HO_7 := n1_
                              have BK181 := n2_
                              have HB := n3_
                              clear n0_ n1_ n2_ n3_
                              (try clear hb)
                              (try clear hb2)
                              (try clear hk)
                              (try clear hi)
                              refine hK.out _ _ ⟨(blk_cell BK181.out 0).trans rfl, (blk_cell BK181.out 1).trans rfl, HS2_, HS3_, HS4_, HS5_⟩ (fun hHeld => ?_)
                              clear hK K
                              refine norm_ (a' := ?_) ?_ ?_
                              rotate_left
                              · show Act.put _ (some 42) _ = _
                                simp only [Act.put, List.setIfInBounds_toArray, List.set_cons_zero, List.set_cons_succ, i64_w, i32_w]
                                rfl
                              refine last_ (i := 13) (N := some 43) #[true, true, true, true, true, true, true, true, true, true, true, true, true, true, false, false] rfl rfl (one_of HT_.out (by kernel_rfl)) (by decide) (fun K hK => ?_)
                              refine value_ (w1 := ?_) (v := ?_) (by rfl) rfl ?_ ?_
                              rotate_left 2
                              · go_simp
                                constructor
                                · rfl
                                · rfl
                              refine hK.out _ _ ?_
                              clear hK K
                              refine norm_ (a' := ?_) ?_ ?_
                              rotate_left
                              · show Act.put _ (some 43) _ = _
                                simp only [Act.put, List.setIfInBounds_toArray, List.set_cons_zero, List.set_cons_succ, i64_w, i32_w]
                                rfl
                              refine last_ (i := 14) (N := some 44) #[true, true, true, true, true, true, true, true, true, true, true, true, true, true, true, false] rfl rfl (one_of HT_.out (by kernel_rfl)) (by decide) (fun K hK => ?_)
                              refine Kd.R_append_step k34 (w0 := w) w.heap.size (by rfl) (.tmp 30) (.tmp 43) 37 34 (.agg #[(.float .f64 0), (.float .f64 0)]) 16 rfl Try.underlying37 info34 rfl (by decide) (by omega) u7 x7_2 (⟨t190, t191⟩ : S34) [.float .f64 b_t190, .float .f64 b_t191] (fun k_ => some k_ ≠ (.slice (some ad182) x4_1.length co11 : Value).ownBlock ∧ k_ ≠ gb181) (fun _ => False) rfl rfl ?aP (fun _ hk => hk.elim) ?aF ?aO ?aB ?aS ?aL ?_
                              (case aP => exact k34_mkM _ _ _ (⟨t190, t191⟩ : S34) hF_t190 hF_t191)
                              (case aB => exact (by repeat (first | (with_reducible first | exact HB.out | apply below_alloc | apply pw_below_drewN | apply below_drew1 | refine below_set ?_ GE181.out) | exact HB.out)))
                              (case aF => exact (fun k_ hk => ⟨Kd.fresh' (Kd.R_lt (by (with_reducible repeat (first | apply Kd.R_alloc | apply Kd.R_drewN | apply Kd.R_drew)); exact HO_4.out)) k_ hk, Kd.freshB (g := gb181) (o := .cells #[.float .f64 b_fr180_0, .float .f64 b_fr180_1] 34 (0, 0)) (by (with_reducible repeat (first | refine blk_drewN ?_ _ | refine blk_drew ?_ | refine blk_alloc ?_ _)); exact BK181.out) k_ hk⟩))
                              (case aO => exact (by (with_reducible repeat (first | apply Kd.R_alloc | apply Kd.R_drewN | apply Kd.R_drew)); exact HO_7.out))
                              (case aS => exact (below_size (by repeat (first | (with_reducible first | exact HB.out | apply below_alloc | apply pw_below_drewN | apply below_drew1 | refine below_set ?_ GE181.out) | exact HB.out))))
                              (case aL => have := LMc21.out; omega)
                              intro v193 w25 ho hb hg hat
                              rw [← Ny192.out] at ho
                              have n0_ := Aside0.mk (Kd.R_after (ok := (fun k_ => k_ ≠ gb181)) (by (with_reducible repeat (first | apply Kd.R_alloc | apply Kd.R_drewN | apply Kd.R_drew)); exact Kd.R_mono HO_4.out (fun _ hk => ⟨hk.2, hk.1⟩)) hg hat)
                              have n1_ := Aside0.mk (blk_grown (g := gb181) (o := .cells #[.float .f64 b_fr180_0, .float .f64 b_fr180_1] 34 (0, 0)) (by (with_reducible repeat (first | refine blk_drewN ?_ _ | refine blk_drew ?_ | refine blk_alloc ?_ _)); exact BK181.out) hg (Kd.R_away HO_7.out (fun _ hk => hk.2)))
                              have n2_ := Aside0.mk (hb)
                              have n3_ := Aside0.mk (ho)
                              clear HO_4
                              clear BK181
                              clear HB
                              clear HO_7
                              have HO_4 := n0_
                              have BK181 := n1_
                              have HB := n2_
                              have HO194 := n3_
                              clear n0_ n1_ n2_ n3_
                              clear ho hb hg hat
                              refine hK.out _ _ ?_
                              clear hK K
                              refine norm_ (a' := ?_) ?_ ?_
                              rotate_left
                              · show Act.put _ (some 44) _ = _
                                simp only [Act.put, List.setIfInBounds_toArray, List.set_cons_zero, List.set_cons_succ, i64_w, i32_w]
                                rfl
                              refine pure_ (i := 15) (N := some 7) (v := ?_) (a' := ?_) #[true, true, true, true, true, true, true, true, true, true, true, true, true, true, true, true] rfl rfl (any_of HT_.out (by kernel_rfl)) (fun _ _ _ h => h) (Or.inl ⟨by rfl, ?_⟩) ?_ ?_
                              rotate_left
                              · intro w'
                                go_simp
                                with_reducible rfl
                              rotate_left
                              · simp only [Act.put, List.setIfInBounds_toArray, List.set_cons_zero, List.set_cons_succ, i64_w, i32_w]
                                rfl
                              refine done_ (done_of HT_.out (by kernel_rfl)) ?_
                              try go_wp2
                              go_roundg k2
                              case measure => have := HK1.out; have := HK2.out; omega
                              case rel => exact ⟨(y192), (wrap64 (x8_2 + 1)), (by first | rfl | (simp; done) | (simp [*]; done)), H', ⟨by have := HK1.out; have := HK2.out; omega⟩, ⟨by (with_reducible repeat (first | apply Kd.R_alloc | apply Kd.R_drewN | apply Kd.R_drew)); exact Kd.R_mono HO_4.out (fun _ hk => ⟨hk.2, hk.1⟩)⟩, ⟨by (with_reducible repeat (first | apply Kd.R_alloc | apply Kd.R_drewN | apply Kd.R_drew)); exact HO194.out⟩, ⟨by (with_reducible repeat (first | refine blk_drewN ?_ _ | refine blk_drew ?_ | refine blk_alloc ?_ _)); exact BK181.out⟩, ⟨by repeat (first | (with_reducible first | exact HB.out | apply below_alloc | apply pw_below_drewN | apply below_drew1 | refine below_set ?_ GE181.out) | exact HB.out)⟩⟩
                            · rw [if_neg c21] at H
                              exact absurd H (by simp)
                          · rw [if_neg c18] at H
                            exact absurd H (by simp)
                        · rw [if_neg c17] at H
                          exact absurd H (by simp)
                      · rw [if_neg c15] at H
                        exact absurd H (by simp)
                    · rw [if_neg c14] at H
                      have c14b0 : decide (x8_2 < (x4_1.length : Int)) = false := decide_eq_false c14
                      clear c14
                      obtain ⟨ji26, hji26⟩ : ∃ j_ : Int, (wrap64 ((x4_1.length : Int) - 1)) = j_ := ⟨_, rfl⟩
                      replace H : (if 0 ≤ (ji26) then (if (ji26) < (x4_1.length : Int) then ((impl_CxTimes.f ((rd_T34 x4_1 (ji26)).f0) ((rd_T34 x4_1 (ji26)).f1) fr180_0 fr180_1).bind fun bt196 => ((impl_CxLess.f (cn .f64 0) (cn .f64 0) bt196.1 bt196.2).bind fun bt198 => (if x7_2.length < 8796093022208 then (impl_FromRoots.l0 k2 (x7_2 ++ [(⟨bt198.1, bt198.2⟩ : S34)]) l0 (l0.length : Int) (wrap64 (x16_1 + 1))) else (none)))) else (none)) else (none)) = some (r1, r2) := by first | (rw [hji26] at H; exact H) | (simp only [hji26] at H ⊢; exact H)
                      have hji26w : (IntKind.i64.wrap ((x4_1.length : Int) - 1)) = ji26 := (i64_w _).trans hji26
                      by_cases c27 : 0 ≤ (ji26)
                      · rw [if_pos c27] at H
                        have c27b0 : decide (0 ≤ (ji26)) = true := decide_eq_true c27
                        clear c27
                        by_cases c28 : (ji26) < (x4_1.length : Int)
                        · rw [if_pos c28] at H
                          have c28b0 : decide ((ji26) < (x4_1.length : Int)) = true := decide_eq_true c28
                          clear c28
                          obtain ⟨fr195_0, hfr195_0⟩ : ∃ y_ : Fl, y_ = ((rd_T34 x4_1 (ji26)).f0) := ⟨_, rfl⟩
                          replace H : ((impl_CxTimes.f fr195_0 ((rd_T34 x4_1 (ji26)).f1) fr180_0 fr180_1).bind fun bt196 => ((impl_CxLess.f (cn .f64 0) (cn .f64 0) bt196.1 bt196.2).bind fun bt198 => (if x7_2.length < 8796093022208 then (impl_FromRoots.l0 k2 (x7_2 ++ [(⟨bt198.1, bt198.2⟩ : S34)]) l0 (l0.length : Int) (wrap64 (x16_1 + 1))) else (none)))) = some (r1, r2) := by first | (rw [hfr195_0]; with_reducible exact H) | (have H2_ := (Option.bind_some _ _).symm.trans H; rw [hfr195_0]; with_reducible exact H2_) | (have H2_ := (Option.bind_some _ _).symm.trans H; with_reducible exact H2_) | with_reducible exact H | (rw [hfr195_0]; exact H) | exact H
                          have Nfr195_0 := Aside0.mk hfr195_0
                          clear hfr195_0
                          obtain ⟨fr195_1, hfr195_1⟩ : ∃ y_ : Fl, y_ = ((rd_T34 x4_1 (ji26)).f1) := ⟨_, rfl⟩
                          replace H : ((impl_CxTimes.f fr195_0 fr195_1 fr180_0 fr180_1).bind fun bt196 => ((impl_CxLess.f (cn .f64 0) (cn .f64 0) bt196.1 bt196.2).bind fun bt198 => (if x7_2.length < 8796093022208 then (impl_FromRoots.l0 k2 (x7_2 ++ [(⟨bt198.1, bt198.2⟩ : S34)]) l0 (l0.length : Int) (wrap64 (x16_1 + 1))) else (none)))) = some (r1, r2) := by first | (rw [hfr195_1]; with_reducible exact H) | (have H2_ := (Option.bind_some _ _).symm.trans H; rw [hfr195_1]; with_reducible exact H2_) | (have H2_ := (Option.bind_some _ _).symm.trans H; with_reducible exact H2_) | with_reducible exact H | (rw [hfr195_1]; exact H) | exact H
                          have Nfr195_1 := Aside0.mk hfr195_1
                          clear hfr195_1
                          replace H := Option.bind_eq_some_iff.mp H
                          obtain ⟨⟨t196, t197⟩, A290, H⟩ := H
                          replace H : ((impl_CxLess.f (cn .f64 0) (cn .f64 0) t196 t197).bind fun bt198 => (if x7_2.length < 8796093022208 then (impl_FromRoots.l0 k2 (x7_2 ++ [(⟨bt198.1, bt198.2⟩ : S34)]) l0 (l0.length : Int) (wrap64 (x16_1 + 1))) else (none))) = some (r1, r2) := H
                          have A29 := Aside0.mk A290
                          clear A290
                          replace H := Option.bind_eq_some_iff.mp H
                          obtain ⟨⟨t198, t199⟩, A300, H⟩ := H
                          replace H : (if x7_2.length < 8796093022208 then (impl_FromRoots.l0 k2 (x7_2 ++ [(⟨t198, t199⟩ : S34)]) l0 (l0.length : Int) (wrap64 (x16_1 + 1))) else (none)) = some (r1, r2) := H
                          have A30 := Aside0.mk A300
                          clear A300
                          by_cases c31 : x7_2.length < 8796093022208
                          · rw [if_pos c31] at H
                            have LMc31 := Aside0.mk c31
                            clear c31
                            obtain ⟨y200, hy200⟩ : ∃ y_ : List (S34), y_ = (x7_2 ++ [(⟨t198, t199⟩ : S34)]) := ⟨_, rfl⟩
                            replace H : (impl_FromRoots.l0 k2 y200 l0 (l0.length : Int) (wrap64 (x16_1 + 1))) = some (r1, r2) := by first | (rw [hy200]; with_reducible exact H) | (have H2_ := (Option.bind_some _ _).symm.trans H; rw [hy200]; with_reducible exact H2_) | (have H2_ := (Option.bind_some _ _).symm.trans H; with_reducible exact H2_) | with_reducible exact H | (rw [hy200]; exact H) | exact H
                            have Ny200 := Aside0.mk hy200
                            clear hy200
                            have H' := Aside0.mk H
                            clear H
                            try go_wp2
                            have n0_ := Aside0.mk (Kd.R_drew HO_4.out)
                            have n1_ := Aside0.mk (Kd.R_drew HO_7.out)
                            have n2_ := Aside0.mk (blk_drew BK181.out)
                            have n3_ := Aside0.mk (below_drew1 HB.out)
                            clear HO_4
                            clear HO_7
                            clear BK181
                            clear HB
                            have HO_4 := n0_
                            have HO_7 := n1_
                            have BK181 := n2_
                            have HB := n3_
                            clear n0_ n1_ n2_ n3_
                            have p195 : 0 ≤ ((ji26) : Int) := of_decide_eq_true (by first | (with_reducible assumption) | assumption)
                            have q195 : (ji26) < (x4_1.length : Int) := of_decide_eq_true (by first | (with_reducible assumption) | assumption)
                            obtain ⟨ad195, b_fr195_0, b_fr195_1, e195, hx195_0, hx195_1, hF195_0, hF195_1⟩ := at_T34 (Kd.R_reads' HO_4.out).2.2 (ji26) p195 q195
                            have hF_fr195_0 := hF195_0.trans Nfr195_0.out.symm
                            clear hF195_0
                            have hF_fr195_1 := hF195_1.trans Nfr195_1.out.symm
                            clear hF195_1
                            obtain rfl : ad182 = ad195 := (by injection e195)
                            replace p195 := eq_true p195
                            replace q195 := eq_true q195
                            refine start_ (n := 14) (S := fun w' => w'.cell? ⟨gb181, 0, none⟩ = some (.float .f64 b_fr180_0) ∧ w'.cell? ⟨gb181, 1, none⟩ = some (.float .f64 b_fr180_1) ∧ w'.cell? (ad182.add (((ji26)).toNat * 2)) = some (.float .f64 b_fr195_0) ∧ w'.cell? ⟨(ad182.add (((ji26)).toNat * 2)).block, (ad182.add (((ji26)).toNat * 2)).off + 1, none⟩ = some (.float .f64 b_fr195_1)) (ds := [11, 12]) #[false, false, false, false, false, false, false, false, false, false, false, false, false, false] (by kernel_rfl) rfl rfl ⟨(blk_cell BK181.out 0).trans rfl, (blk_cell BK181.out 1).trans rfl, hx195_0, hx195_1⟩ (fun hHeld => ?_); refine with_tabW impl_FromRoots.tab12 impl_FromRoots.bits12 (fun HT_ HW_ => ?_)
                            generalize wr.drew = w32 at HO_4 HO_7 BK181 HB hx195_0 hx195_1 hHeld ⊢
                            refine pure_ (i := 0) (N := some 45) (v := ?_) (a' := ?_) #[true, false, false, false, false, false, false, false, false, false, false, false, false, false] rfl rfl (any_of HT_.out (by kernel_rfl)) (fun _ _ _ h => h) (Or.inl ⟨by rfl, ?_⟩) ?_ ?_
                            rotate_left
                            · intro w'
                              go_simp
                              with_reducible rfl
                            rotate_left
                            · simp only [Act.put, List.setIfInBounds_toArray, List.set_cons_zero, List.set_cons_succ, i64_w, i32_w]
                              rfl
                            refine pure_ (i := 1) (N := some 46) (v := ?_) (a' := ?_) #[true, true, false, false, false, false, false, false, false, false, false, false, false, false] rfl rfl (any_of HT_.out (by kernel_rfl)) (fun _ _ _ h => h) (Or.inl ⟨by rfl, ?_⟩) ?_ ?_
                            rotate_left
                            · intro w'
                              go_simp
                              with_reducible rfl
                            rotate_left
                            · simp only [Act.put, List.setIfInBounds_toArray, List.set_cons_zero, List.set_cons_succ, i64_w, i32_w]
                              rfl
                            refine pure_ (i := 2) (N := some 47) (v := ?_) (a' := ?_) #[true, true, true, false, false, false, false, false, false, false, false, false, false, false] rfl rfl (any_of HT_.out (by kernel_rfl)) (fun _ _ _ h => h) (Or.inl ⟨by rfl, ?_⟩) ?_ ?_
                            rotate_left
                            · intro w'
                              go_simp
                              with_reducible rfl
                            rotate_left
                            · simp only [Act.put, List.setIfInBounds_toArray, List.set_cons_zero, List.set_cons_succ, i64_w, i32_w]
                              rfl
                            refine pure_ (i := 3) (N := some 48) (v := ?_) (a' := ?_) #[true, true, true, true, false, false, false, false, false, false, false, false, false, false] rfl rfl (any_of HT_.out (by kernel_rfl)) (fun _ _ _ h => h) (Or.inl ⟨by rfl, ?_⟩) ?_ ?_
                            rotate_left
                            · intro w'
                              go_simp
                              with_reducible rfl
                            rotate_left
                            · simp only [Act.put, List.setIfInBounds_toArray, List.set_cons_zero, List.set_cons_succ, i64_w, i32_w]
                              rfl
                            refine pure_ (i := 4) (N := some 49) (v := ?_) (a' := ?_) #[true, true, true, true, true, false, false, false, false, false, false, false, false, false] rfl rfl (any_of HT_.out (by kernel_rfl)) (fun _ _ _ h => h) (Or.inl ⟨by rfl, ?_⟩) ?_ ?_
                            rotate_left
                            · intro w'
                              go_simp
                              with_reducible rfl
                            rotate_left
                            · simp only [Act.put, List.setIfInBounds_toArray, List.set_cons_zero, List.set_cons_succ, i64_w, i32_w]
                              rfl
                            refine pure_ (i := 5) (N := some 50) (v := ?_) (a' := ?_) #[true, true, true, true, true, true, false, false, false, false, false, false, false, false] rfl rfl (any_of HT_.out (by kernel_rfl)) (fun _ _ _ h => h) (Or.inl ⟨by rfl, ?_⟩) ?_ ?_
                            rotate_left
                            · intro w'
                              go_simp
                              with_reducible rfl
                            rotate_left
                            · simp only [Act.put, List.setIfInBounds_toArray, List.set_cons_zero, List.set_cons_succ, i64_w, i32_w]
                              rfl
                            refine pure_ (i := 6) (N := some 51) (v := ?_) (a' := ?_) #[true, true, true, true, true, true, true, false, false, false, false, false, false, false] rfl rfl (any_of HT_.out (by kernel_rfl)) (fun _ _ _ h => h) (Or.inl ⟨by rfl, ?_⟩) ?_ ?_
                            rotate_left
                            · intro w'
                              go_simp
                              with_reducible rfl
                            rotate_left
                            · simp only [Act.put, List.setIfInBounds_toArray, List.set_cons_zero, List.set_cons_succ, i64_w, i32_w]
                              rfl
                            refine take_ (i := 7) (N := some 52) (v := ?_) (a' := ?_) #[true, true, true, true, true, true, true, true, false, false, false, false, false, false] rfl rfl (take_ofW HT_.out HW_.out (by kernel_rfl)) (fun _ _ _ h => h) (Or.inl ⟨by rfl, ?_⟩) hHeld ?_ ?_
                            rotate_left
                            · rintro w' ⟨s0, s1, s2, s3⟩
                              go_simp
                              with_reducible rfl
                            rotate_left
                            · simp only [Act.put, List.setIfInBounds_toArray, List.set_cons_zero, List.set_cons_succ, i64_w, i32_w]
                              rfl
                            refine take_ (i := 8) (N := some 53) (v := ?_) (a' := ?_) #[true, true, true, true, true, true, true, true, true, false, false, false, false, false] rfl rfl (take_ofW HT_.out HW_.out (by kernel_rfl)) (fun _ _ _ h => h) (Or.inl ⟨by rfl, ?_⟩) hHeld ?_ ?_
                            rotate_left
                            · rintro w' ⟨s0, s1, s2, s3⟩
                              go_simp
                              with_reducible rfl
                            rotate_left
                            · simp only [Act.put, List.setIfInBounds_toArray, List.set_cons_zero, List.set_cons_succ, i64_w, i32_w]
                              rfl
                            refine one_ (i := 9) (N := some 54) #[true, true, true, true, true, true, true, true, true, true, false, false, false, false] rfl rfl (one_of HT_.out (by kernel_rfl)) (by decide) (fun K hK => ?_)
                            refine goes_ Try.func51 (by kernel_rfl) rfl #[.agg #[.float .f64 b_fr195_0, .float .f64 b_fr195_1], .agg #[.float .f64 b_fr180_0, .float .f64 b_fr180_1]] (by rfl) rfl rfl (by (try simp only [List.map_toArray, List.map_cons, List.map_nil]); first | done | rfl | (simp only [List.length_drop, List.length_take]; rfl)) ?_
                            with_reducible refine (impl_CxTimes.calls b_fr195_0 fr195_0 b_fr195_1 fr195_1 b_fr180_0 fr180_0 b_fr180_1 fr180_1 t196 t197 _ ?side1 ?side2 ?side3 ?side4 A29.out).mono ?_
                            (case side1 => exact hF_fr195_0)
                            (case side2 => exact hF_fr195_1)
                            (case side3 => exact hF_fr180_0)
                            (case side4 => exact hF_fr180_1)
                            rintro e w33 ⟨b_t196, b_t197, rfl, hF_t196, hF_t197, hb⟩
                            have HS2_ := (hb.cell (World.block_lt_of_cell? _ _ (hHeld.2.2.1))).trans (hHeld.2.2.1)
                            have HS3_ := (hb.cell (World.block_lt_of_cell? _ _ (hHeld.2.2.2))).trans (hHeld.2.2.2)
                            refine ⟨_, rfl, ?_⟩
                            have n0_ := Aside0.mk (Kd.R_below (by (with_reducible repeat (first | apply Kd.R_alloc | apply Kd.R_drewN | apply Kd.R_drew)); exact HO_4.out) hb)
                            have n1_ := Aside0.mk (Kd.R_below (by (with_reducible repeat (first | apply Kd.R_alloc | apply Kd.R_drewN | apply Kd.R_drew)); exact HO_7.out) hb)
                            have n2_ := Aside0.mk (blk_below (g := gb181) (o := .cells #[.float .f64 b_fr180_0, .float .f64 b_fr180_1] 34 (0, 0)) (by (with_reducible repeat (first | refine blk_drewN ?_ _ | refine blk_drew ?_ | refine blk_alloc ?_ _)); exact BK181.out) hb)
                            have n3_ := Aside0.mk (below_step (by repeat (first | (with_reducible first | exact HB.out | apply below_alloc | apply pw_below_drewN | apply below_drew1 | refine below_set ?_ GE181.out) | exact HB.out)) hb)
                            clear HO_4
                            clear HO_7
                            clear BK181
                            clear HB
                            have HO_4 := n0_
                            have HO_7 := n1_
                            have BK181 := n2_
                            have HB := n3_
                            clear n0_ n1_ n2_ n3_
                            (try clear hb)
                            (try clear hb2)
                            (try clear hk)
                            (try clear hi)
                            refine hK.out _ _ ⟨(blk_cell BK181.out 0).trans rfl, (blk_cell BK181.out 1).trans rfl, HS2_, HS3_⟩ (fun hHeld => ?_)
                            clear hK K
                            refine norm_ (a' := ?_) ?_ ?_
                            rotate_left
                            · show Act.put _ (some 54) _ = _
                              simp only [Act.put, List.setIfInBounds_toArray, List.set_cons_zero, List.set_cons_succ, i64_w, i32_w]
                              rfl
                            refine one_ (i := 10) (N := some 55) #[true, true, true, true, true, true, true, true, true, true, true, false, false, false] rfl rfl (one_of HT_.out (by kernel_rfl)) (by decide) (fun K hK => ?_)
                            refine goes_ Try.func54 (by kernel_rfl) rfl #[.agg #[.float .f64 0, .float .f64 0], .agg #[.float .f64 b_t196, .float .f64 b_t197]] (by rfl) rfl rfl (by (try simp only [List.map_toArray, List.map_cons, List.map_nil]); first | done | rfl | (simp only [List.length_drop, List.length_take]; rfl)) ?_
                            with_reducible refine (impl_CxLess.calls 0 (cn .f64 0) 0 (cn .f64 0) b_t196 t196 b_t197 t197 t198 t199 _ ?side1 ?side2 ?side3 ?side4 A30.out).mono ?_
                            (case side1 => exact rfl)
                            (case side2 => exact rfl)
                            (case side3 => exact hF_t196)
                            (case side4 => exact hF_t197)
                            rintro e w34 ⟨b_t198, b_t199, rfl, hF_t198, hF_t199, hb⟩
                            have HS2_ := (hb.cell (World.block_lt_of_cell? _ _ (hHeld.2.2.1))).trans (hHeld.2.2.1)
                            have HS3_ := (hb.cell (World.block_lt_of_cell? _ _ (hHeld.2.2.2))).trans (hHeld.2.2.2)
                            refine ⟨_, rfl, ?_⟩
                            have n0_ := Aside0.mk (Kd.R_below (by (with_reducible repeat (first | apply Kd.R_alloc | apply Kd.R_drewN | apply Kd.R_drew)); exact HO_4.out) hb)
                            have n1_ := Aside0.mk (Kd.R_below (by (with_reducible repeat (first | apply Kd.R_alloc | apply Kd.R_drewN | apply Kd.R_drew)); exact HO_7.out) hb)
                            have n2_ := Aside0.mk (blk_below (g := gb181) (o := .cells #[.float .f64 b_fr180_0, .float .f64 b_fr180_1] 34 (0, 0)) (by (with_reducible repeat (first | refine blk_drewN ?_ _ | refine blk_drew ?_ | refine blk_alloc ?_ _)); exact BK181.out) hb)
                            have n3_ := Aside0.mk (below_step (by repeat (first | (with_reducible first | exact HB.out | apply below_alloc | apply pw_below_drewN | apply below_drew1 | refine below_set ?_ GE181.out) | exact HB.out)) hb)
                            clear HO_4
                            clear HO_7
                            clear BK181
                            clear HB
                            have HO_4 := n0_
                            have HO_7 := n1_
                            have BK181 := n2_
                            have HB := n3_
                            clear n0_ n1_ n2_ n3_
                            (try clear hb)
                            (try clear hb2)
                            (try clear hk)
                            (try clear hi)
                            refine hK.out _ _ ⟨(blk_cell BK181.out 0).trans rfl, (blk_cell BK181.out 1).trans rfl, HS2_, HS3_⟩ (fun hHeld => ?_)
                            clear hK K
                            refine norm_ (a' := ?_) ?_ ?_
                            rotate_left
                            · show Act.put _ (some 55) _ = _
                              simp only [Act.put, List.setIfInBounds_toArray, List.set_cons_zero, List.set_cons_succ, i64_w, i32_w]
                              rfl
                            refine last_ (i := 11) (N := some 56) #[true, true, true, true, true, true, true, true, true, true, true, true, false, false] rfl rfl (one_of HT_.out (by kernel_rfl)) (by decide) (fun K hK => ?_)
                            refine value_ (w1 := ?_) (v := ?_) (by rfl) rfl ?_ ?_
                            rotate_left 2
                            · go_simp
                              constructor
                              · rfl
                              · rfl
                            refine hK.out _ _ ?_
                            clear hK K
                            refine norm_ (a' := ?_) ?_ ?_
                            rotate_left
                            · show Act.put _ (some 56) _ = _
                              simp only [Act.put, List.setIfInBounds_toArray, List.set_cons_zero, List.set_cons_succ, i64_w, i32_w]
                              rfl
                            refine last_ (i := 12) (N := some 57) #[true, true, true, true, true, true, true, true, true, true, true, true, true, false] rfl rfl (one_of HT_.out (by kernel_rfl)) (by decide) (fun K hK => ?_)
                            refine Kd.R_append_step k34 (w0 := w) w.heap.size (by rfl) (.tmp 45) (.tmp 56) 37 34 (.agg #[(.float .f64 0), (.float .f64 0)]) 16 rfl Try.underlying37 info34 rfl (by decide) (by omega) u7 x7_2 (⟨t198, t199⟩ : S34) [.float .f64 b_t198, .float .f64 b_t199] (fun k_ => some k_ ≠ (.slice (some ad182) x4_1.length co11 : Value).ownBlock ∧ k_ ≠ gb181) (fun _ => False) rfl rfl ?aP (fun _ hk => hk.elim) ?aF ?aO ?aB ?aS ?aL ?_
                            (case aP => exact k34_mkM _ _ _ (⟨t198, t199⟩ : S34) hF_t198 hF_t199)
                            (case aB => exact (by repeat (first | (with_reducible first | exact HB.out | apply below_alloc | apply pw_below_drewN | apply below_drew1 | refine below_set ?_ GE181.out) | exact HB.out)))
                            (case aF => exact (fun k_ hk => ⟨Kd.fresh' (Kd.R_lt (by (with_reducible repeat (first | apply Kd.R_alloc | apply Kd.R_drewN | apply Kd.R_drew)); exact HO_4.out)) k_ hk, Kd.freshB (g := gb181) (o := .cells #[.float .f64 b_fr180_0, .float .f64 b_fr180_1] 34 (0, 0)) (by (with_reducible repeat (first | refine blk_drewN ?_ _ | refine blk_drew ?_ | refine blk_alloc ?_ _)); exact BK181.out) k_ hk⟩))
                            (case aO => exact (by (with_reducible repeat (first | apply Kd.R_alloc | apply Kd.R_drewN | apply Kd.R_drew)); exact HO_7.out))
                            (case aS => exact (below_size (by repeat (first | (with_reducible first | exact HB.out | apply below_alloc | apply pw_below_drewN | apply below_drew1 | refine below_set ?_ GE181.out) | exact HB.out))))
                            (case aL => have := LMc31.out; omega)
                            intro v201 w35 ho hb hg hat
                            rw [← Ny200.out] at ho
                            have n0_ := Aside0.mk (Kd.R_after (ok := (fun k_ => k_ ≠ gb181)) (by (with_reducible repeat (first | apply Kd.R_alloc | apply Kd.R_drewN | apply Kd.R_drew)); exact Kd.R_mono HO_4.out (fun _ hk => ⟨hk.2, hk.1⟩)) hg hat)
                            have n1_ := Aside0.mk (blk_grown (g := gb181) (o := .cells #[.float .f64 b_fr180_0, .float .f64 b_fr180_1] 34 (0, 0)) (by (with_reducible repeat (first | refine blk_drewN ?_ _ | refine blk_drew ?_ | refine blk_alloc ?_ _)); exact BK181.out) hg (Kd.R_away HO_7.out (fun _ hk => hk.2)))
                            have n2_ := Aside0.mk (hb)
                            have n3_ := Aside0.mk (ho)
                            clear HO_4
                            clear BK181
                            clear HB
                            clear HO_7
                            have HO_4 := n0_
                            have BK181 := n1_
                            have HB := n2_
                            have HO202 := n3_
                            clear n0_ n1_ n2_ n3_
                            clear ho hb hg hat
                            refine hK.out _ _ ?_
                            clear hK K
                            refine norm_ (a' := ?_) ?_ ?_
                            rotate_left
                            · show Act.put _ (some 57) _ = _
                              simp only [Act.put, List.setIfInBounds_toArray, List.set_cons_zero, List.set_cons_succ, i64_w, i32_w]
                              rfl
                            refine pure_ (i := 13) (N := some 4) (v := ?_) (a' := ?_) #[true, true, true, true, true, true, true, true, true, true, true, true, true, true] rfl rfl (any_of HT_.out (by kernel_rfl)) (fun _ _ _ h => h) (Or.inl ⟨by rfl, ?_⟩) ?_ ?_
                            rotate_left
                            · intro w'
                              go_simp
                              with_reducible rfl
                            rotate_left
                            · simp only [Act.put, List.setIfInBounds_toArray, List.set_cons_zero, List.set_cons_succ, i64_w, i32_w]
                              rfl
                            refine done_ (done_of HT_.out (by kernel_rfl)) ?_
                            try go_wp2
                            go_roundg k2
                            case measure => have := HK1.out; have := HK2.out; omega
                            case rel => exact ⟨(y200), (wrap64 (x16_1 + 1)), (by first | rfl | (simp; done) | (simp [*]; done)), H', ⟨by have := HK1.out; have := HK2.out; omega⟩, ⟨by (with_reducible repeat (first | apply Kd.R_alloc | apply Kd.R_drewN | apply Kd.R_drew)); exact Kd.R_mono HO202.out (fun _ hk => trivial)⟩, ⟨by repeat (first | (with_reducible first | exact HB.out | apply below_alloc | apply pw_below_drewN | apply below_drew1 | refine below_set ?_ GE181.out) | exact HB.out)⟩⟩
                          · rw [if_neg c31] at H
                            exact absurd H (by simp)
                        · rw [if_neg c28] at H
                          exact absurd H (by simp)
                      · rw [if_neg c27] at H
                        exact absurd H (by simp)
              · rw [if_neg c8] at H
                exact absurd H (by simp)
            · rw [if_neg c7] at H
              exact absurd H (by simp)
          · rw [if_neg c6] at H
            exact absurd H (by simp)
        · rw [if_neg c5] at H
          have c5b0 : decide (x16_1 < (l0.length : Int)) = false := decide_eq_false c5
          clear c5
          simp only [Option.some.injEq, Prod.mk.injEq] at H
          obtain ⟨rfl, rfl⟩ := H
          go_wp2
          go_ret2
          exact ⟨_, by first | rfl | (simp [errW_none, errW_some] <;> rfl) | (simp [*, errW_none, errW_some] <;> rfl), by (with_reducible repeat (first | apply Kd.R_alloc | apply Kd.R_drewN | apply Kd.R_drew)); exact HO_4.out, by repeat (first | (with_reducible first | exact HB.out | apply below_alloc | apply pw_below_drewN | apply below_drew1) | exact HB.out)⟩

end Go.Proofs.Ytfopdbdamkfglaa.QFnExactFromRoots
