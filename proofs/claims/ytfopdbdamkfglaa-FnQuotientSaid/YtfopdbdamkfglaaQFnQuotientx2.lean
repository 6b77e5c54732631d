/- Lean functions that tell what the Go functions used by one law answer, and for each a proof that the Go code comes to just these answers; no condition. Printed by this session's own program over the kit's printer. -/
import Derived.Test.YtfopdbdamkfglaaQFnQuotientx0
import Derived.Test.YtfopdbdamkfglaaQFnQuotientx1
namespace Go.Proofs.Ytfopdbdamkfglaa.QFnQuotient
open Go.RowKit Go.Proofs.YtfopdbdamkfglaaW.PrintWords Go.Proofs.YtfopdbdamkfglaaW.PrintLast Go.Proofs.YtfopdbdamkfglaaW.PrintMore
attribute [local go_sem] max2_int min2_int max_two min_two max_three min_three max_four min_four   -- for this text's walks alone
attribute [local go_sem high] go_eql go_neq go_lss go_leq go_gtr go_geq go_store   -- for this text's walks alone
set_option linter.unusedVariables false
set_option linter.unusedSimpArgs false

/-! ### impl_Flutter: function 53 -/
def impl_Flutter.f (a0_0 : Fl) (a0_1 : Fl) (a1_0 : Fl) (a1_1 : Fl) (a2_0 : Fl) (a2_1 : Fl) (a3_0 : Fl) (a3_1 : Fl) : Option (Fl × Fl × Fl × Fl) := (impl_CxTimes.f a0_0 a0_1 a3_0 a3_1).bind fun bt167 => ((impl_CxTimes.f a1_0 a1_1 a2_0 a2_1).bind fun bt169 => ((impl_CxLess.f bt167.1 bt167.2 bt169.1 bt169.2).bind fun bt171 => ((impl_CxAdd.f a0_0 a0_1 a3_0 a3_1).bind fun bt173 => (some (bt171.1, bt171.2, bt173.1, bt173.2)))))
def impl_Flutter.T1 : Bool × List (List Nat × List Nat) := (true, [([], []), ([], []), ([0, 1], [0, 1]), ([], []), ([], []), ([3, 4, 2], [3, 4]), ([2, 5, 5], [2, 5]), ([], []), ([], []), ([7, 8, 6], [7, 8]), ([6, 9, 0, 1, 2, 3, 4, 5, 6], [6]), ([9, 10, 0, 1, 2, 3, 4, 5, 6, 7, 8, 9, 10], [9])])
def impl_Flutter.B1 : List Nat := [0, 0, 3, 0, 0, 31, 63, 0, 0, 511, 1023, 2047]
theorem impl_Flutter.tab1 : rtab .any (opsOf Try.f53 1) = impl_Flutter.T1 := by kernel_rfl
theorem impl_Flutter.bits1 : waitsOk impl_Flutter.T1.2 impl_Flutter.B1 = true := by kernel_rfl
set_option maxHeartbeats 8000000 in
set_option maxRecDepth 100000 in
theorem impl_Flutter.calls (b_a0_0 : Nat) (a0_0 : Fl) (b_a0_1 : Nat) (a0_1 : Fl) (b_a1_0 : Nat) (a1_0 : Fl) (b_a1_1 : Nat) (a1_1 : Fl) (b_a2_0 : Nat) (a2_0 : Fl) (b_a2_1 : Nat) (a2_1 : Fl) (b_a3_0 : Nat) (a3_0 : Fl) (b_a3_1 : Nat) (a3_1 : Fl) (r1 : Fl) (r2 : Fl) (r3 : Fl) (r4 : Fl) (w : World) (hF_a0_0 : cn .f64 b_a0_0 = a0_0) (hF_a0_1 : cn .f64 b_a0_1 = a0_1) (hF_a1_0 : cn .f64 b_a1_0 = a1_0) (hF_a1_1 : cn .f64 b_a1_1 = a1_1) (hF_a2_0 : cn .f64 b_a2_0 = a2_0) (hF_a2_1 : cn .f64 b_a2_1 = a2_1) (hF_a3_0 : cn .f64 b_a3_0 = a3_0) (hF_a3_1 : cn .f64 b_a3_1 = a3_1) (h : impl_Flutter.f a0_0 a0_1 a1_0 a1_1 a2_0 a2_1 a3_0 a3_1 = some (r1, r2, r3, r4)) :
  Calls Try.prog 53 #[.agg #[.float .f64 b_a0_0, .float .f64 b_a0_1], .agg #[.float .f64 b_a1_0, .float .f64 b_a1_1], .agg #[.float .f64 b_a2_0, .float .f64 b_a2_1], .agg #[.float .f64 b_a3_0, .float .f64 b_a3_1]] w fun e w' => ∃ b_r1 b_r2 b_r3 b_r4 : Nat, e = .returned (.tuple #[.agg #[.float .f64 b_r1, .float .f64 b_r2], .agg #[.float .f64 b_r3, .float .f64 b_r4]]) ∧ cn .f64 b_r1 = r1 ∧ cn .f64 b_r2 = r2 ∧ cn .f64 b_r3 = r3 ∧ cn .f64 b_r4 = r4 ∧ Below w.heap.size w w' := by
 have hu34 := Try.underlying34
 have HB := Aside0.mk (Below.refl w.heap.size w)
 have H : ((impl_CxTimes.f a0_0 a0_1 a3_0 a3_1).bind fun bt167 => ((impl_CxTimes.f a1_0 a1_1 a2_0 a2_1).bind fun bt169 => ((impl_CxLess.f bt167.1 bt167.2 bt169.1 bt169.2).bind fun bt171 => ((impl_CxAdd.f a0_0 a0_1 a3_0 a3_1).bind fun bt173 => (some (bt171.1, bt171.2, bt173.1, bt173.2)))))) = some (r1, r2, r3, r4) := h
 clear h
 replace H := Option.bind_eq_some_iff.mp H
 obtain ⟨⟨t167, t168⟩, A50, H⟩ := H
 replace H : ((impl_CxTimes.f a1_0 a1_1 a2_0 a2_1).bind fun bt169 => ((impl_CxLess.f t167 t168 bt169.1 bt169.2).bind fun bt171 => ((impl_CxAdd.f a0_0 a0_1 a3_0 a3_1).bind fun bt173 => (some (bt171.1, bt171.2, bt173.1, bt173.2))))) = some (r1, r2, r3, r4) := H
 have A5 := Aside0.mk A50
 clear A50
 replace H := Option.bind_eq_some_iff.mp H
 obtain ⟨⟨t169, t170⟩, A60, H⟩ := H
 replace H : ((impl_CxLess.f t167 t168 t169 t170).bind fun bt171 => ((impl_CxAdd.f a0_0 a0_1 a3_0 a3_1).bind fun bt173 => (some (bt171.1, bt171.2, bt173.1, bt173.2)))) = some (r1, r2, r3, r4) := H
 have A6 := Aside0.mk A60
 clear A60
 replace H := Option.bind_eq_some_iff.mp H
 obtain ⟨⟨t171, t172⟩, A70, H⟩ := H
 replace H : ((impl_CxAdd.f a0_0 a0_1 a3_0 a3_1).bind fun bt173 => (some (t171, t172, bt173.1, bt173.2))) = some (r1, r2, r3, r4) := H
 have A7 := Aside0.mk A70
 clear A70
 replace H := Option.bind_eq_some_iff.mp H
 obtain ⟨⟨t173, t174⟩, A80, H⟩ := H
 replace H : (some (t171, t172, t173, t174)) = some (r1, r2, r3, r4) := H
 have A8 := Aside0.mk A80
 clear A80
 simp only [Option.some.injEq, Prod.mk.injEq] at H
 obtain ⟨rfl, rfl, rfl, rfl⟩ := H
 go_enter Try.func53, Try.ntmps53
 try go_wp2_with (first | ((with_reducible refine gate_dst (N := 4) rfl ?_); refine box_event ?hg (N := 4) ?hd (cs := #[.float .f64 b_a0_0, .float .f64 b_a0_1]) (t := 34) ?hr ?_; (case hd => rfl); (case hg => rfl); (case hr => first | (go_simp; done) | (go_simp; rfl)); intro gb161 hg w9 hbox hb; have n0_ := Aside0.mk (below_step (by exact HB.out) hb); have n1_ := Aside0.mk (hbox); have n2_ := Aside0.mk ((by rw [hg]; exact (below_size (by exact HB.out)) : w.heap.size ≤ gb161)); have n3_ := Aside0.mk ((n2_.out)); clear HB; have HB := n0_; have BK161 := n1_; have GW161 := n2_; have GE161 := n3_; clear n0_ n1_ n2_ n3_; clear hb hbox hg) | ((with_reducible refine gate_dst (N := 5) rfl ?_); refine box_event ?hg (N := 5) ?hd (cs := #[.float .f64 b_a1_0, .float .f64 b_a1_1]) (t := 34) ?hr ?_; (case hd => rfl); (case hg => rfl); (case hr => first | (go_simp; done) | (go_simp; rfl)); intro gb162 hg w10 hbox hb; have n0_ := Aside0.mk (blk_below (g := gb161) (o := .cells #[.float .f64 b_a0_0, .float .f64 b_a0_1] 34 (0, 0)) (by exact BK161.out) hb); have n1_ := Aside0.mk (below_step (by exact HB.out) hb); have n2_ := Aside0.mk (hbox); have n3_ := Aside0.mk ((by rw [hg]; exact (below_size (by exact HB.out)) : w.heap.size ≤ gb162)); have n4_ := Aside0.mk ((n3_.out)); have n5_ := Aside0.mk ((by rw [hg]; exact Nat.ne_of_lt (blk_lt (g := gb161) (o := .cells #[.float .f64 b_a0_0, .float .f64 b_a0_1] 34 (0, 0)) (by exact BK161.out)) : gb161 ≠ gb162)); have n6_ := Aside0.mk ((n5_.out.symm)); clear BK161; clear HB; have BK161 := n0_; have HB := n1_; have BK162 := n2_; have GW162 := n3_; have GE162 := n4_; have NB161_162 := n5_; have NB162_161 := n6_; clear n0_ n1_ n2_ n3_ n4_ n5_ n6_; clear hb hbox hg) | ((with_reducible refine gate_dst (N := 6) rfl ?_); refine box_event ?hg (N := 6) ?hd (cs := #[.float .f64 b_a2_0, .float .f64 b_a2_1]) (t := 34) ?hr ?_; (case hd => rfl); (case hg => rfl); (case hr => first | (go_simp; done) | (go_simp; rfl)); intro gb163 hg w11 hbox hb; have n0_ := Aside0.mk (blk_below (g := gb161) (o := .cells #[.float .f64 b_a0_0, .float .f64 b_a0_1] 34 (0, 0)) (by exact BK161.out) hb); have n1_ := Aside0.mk (blk_below (g := gb162) (o := .cells #[.float .f64 b_a1_0, .float .f64 b_a1_1] 34 (0, 0)) (by exact BK162.out) hb); have n2_ := Aside0.mk (below_step (by exact HB.out) hb); have n3_ := Aside0.mk (hbox); have n4_ := Aside0.mk ((by rw [hg]; exact (below_size (by exact HB.out)) : w.heap.size ≤ gb163)); have n5_ := Aside0.mk ((n4_.out)); have n6_ := Aside0.mk ((by rw [hg]; exact Nat.ne_of_lt (blk_lt (g := gb161) (o := .cells #[.float .f64 b_a0_0, .float .f64 b_a0_1] 34 (0, 0)) (by exact BK161.out)) : gb161 ≠ gb163)); have n7_ := Aside0.mk ((n6_.out.symm)); have n8_ := Aside0.mk ((by rw [hg]; exact Nat.ne_of_lt (blk_lt (g := gb162) (o := .cells #[.float .f64 b_a1_0, .float .f64 b_a1_1] 34 (0, 0)) (by exact BK162.out)) : gb162 ≠ gb163)); have n9_ := Aside0.mk ((n8_.out.symm)); clear BK161; clear BK162; clear HB; have BK161 := n0_; have BK162 := n1_; have HB := n2_; have BK163 := n3_; have GW163 := n4_; have GE163 := n5_; have NB161_163 := n6_; have NB163_161 := n7_; have NB162_163 := n8_; have NB163_162 := n9_; clear n0_ n1_ n2_ n3_ n4_ n5_ n6_ n7_ n8_ n9_; clear hb hbox hg) | ((with_reducible refine gate_dst (N := 7) rfl ?_); refine box_event ?hg (N := 7) ?hd (cs := #[.float .f64 b_a3_0, .float .f64 b_a3_1]) (t := 34) ?hr ?_; (case hd => rfl); (case hg => rfl); (case hr => first | (go_simp; done) | (go_simp; rfl)); intro gb164 hg w12 hbox hb; have n0_ := Aside0.mk (blk_below (g := gb161) (o := .cells #[.float .f64 b_a0_0, .float .f64 b_a0_1] 34 (0, 0)) (by exact BK161.out) hb); have n1_ := Aside0.mk (blk_below (g := gb162) (o := .cells #[.float .f64 b_a1_0, .float .f64 b_a1_1] 34 (0, 0)) (by exact BK162.out) hb); have n2_ := Aside0.mk (blk_below (g := gb163) (o := .cells #[.float .f64 b_a2_0, .float .f64 b_a2_1] 34 (0, 0)) (by exact BK163.out) hb); have n3_ := Aside0.mk (below_step (by exact HB.out) hb); have n4_ := Aside0.mk (hbox); have n5_ := Aside0.mk ((by rw [hg]; exact (below_size (by exact HB.out)) : w.heap.size ≤ gb164)); have n6_ := Aside0.mk ((n5_.out)); have n7_ := Aside0.mk ((by rw [hg]; exact Nat.ne_of_lt (blk_lt (g := gb161) (o := .cells #[.float .f64 b_a0_0, .float .f64 b_a0_1] 34 (0, 0)) (by exact BK161.out)) : gb161 ≠ gb164)); have n8_ := Aside0.mk ((n7_.out.symm)); have n9_ := Aside0.mk ((by rw [hg]; exact Nat.ne_of_lt (blk_lt (g := gb162) (o := .cells #[.float .f64 b_a1_0, .float .f64 b_a1_1] 34 (0, 0)) (by exact BK162.out)) : gb162 ≠ gb164)); have n10_ := Aside0.mk ((n9_.out.symm)); have n11_ := Aside0.mk ((by rw [hg]; exact Nat.ne_of_lt (blk_lt (g := gb163) (o := .cells #[.float .f64 b_a2_0, .float .f64 b_a2_1] 34 (0, 0)) (by exact BK163.out)) : gb163 ≠ gb164)); have n12_ := Aside0.mk ((n11_.out.symm)); clear BK161; clear BK162; clear BK163; clear HB; have BK161 := n0_; have BK162 := n1_; have BK163 := n2_; have HB := n3_; have BK164 := n4_; have GW164 := n5_; have GE164 := n6_; have NB161_164 := n7_; have NB164_161 := n8_; have NB162_164 := n9_; have NB164_162 := n10_; have NB163_164 := n11_; have NB164_163 := n12_; clear n0_ n1_ n2_ n3_ n4_ n5_ n6_ n7_ n8_ n9_ n10_ n11_ n12_; clear hb hbox hg) | ((with_reducible refine gate_dst (N := 8) rfl ?_); refine box_event ?hg (N := 8) ?hd (cs := #[.float .f64 0, .float .f64 0]) (t := 34) ?hr ?_; (case hd => rfl); (case hg => rfl); (case hr => first | (go_simp; done) | (go_simp; rfl)); intro gb165 hg w13 hbox hb; have n0_ := Aside0.mk (blk_below (g := gb161) (o := .cells #[.float .f64 b_a0_0, .float .f64 b_a0_1] 34 (0, 0)) (by exact BK161.out) hb); have n1_ := Aside0.mk (blk_below (g := gb162) (o := .cells #[.float .f64 b_a1_0, .float .f64 b_a1_1] 34 (0, 0)) (by exact BK162.out) hb); have n2_ := Aside0.mk (blk_below (g := gb163) (o := .cells #[.float .f64 b_a2_0, .float .f64 b_a2_1] 34 (0, 0)) (by exact BK163.out) hb); have n3_ := Aside0.mk (blk_below (g := gb164) (o := .cells #[.float .f64 b_a3_0, .float .f64 b_a3_1] 34 (0, 0)) (by exact BK164.out) hb); have n4_ := Aside0.mk (below_step (by exact HB.out) hb); have n5_ := Aside0.mk (hbox); have n6_ := Aside0.mk ((by rw [hg]; exact (below_size (by exact HB.out)) : w.heap.size ≤ gb165)); have n7_ := Aside0.mk ((n6_.out)); have n8_ := Aside0.mk ((by rw [hg]; exact Nat.ne_of_lt (blk_lt (g := gb161) (o := .cells #[.float .f64 b_a0_0, .float .f64 b_a0_1] 34 (0, 0)) (by exact BK161.out)) : gb161 ≠ gb165)); have n9_ := Aside0.mk ((n8_.out.symm)); have n10_ := Aside0.mk ((by rw [hg]; exact Nat.ne_of_lt (blk_lt (g := gb162) (o := .cells #[.float .f64 b_a1_0, .float .f64 b_a1_1] 34 (0, 0)) (by exact BK162.out)) : gb162 ≠ gb165)); have n11_ := Aside0.mk ((n10_.out.symm)); have n12_ := Aside0.mk ((by rw [hg]; exact Nat.ne_of_lt (blk_lt (g := gb163) (o := .cells #[.float .f64 b_a2_0, .float .f64 b_a2_1] 34 (0, 0)) (by exact BK163.out)) : gb163 ≠ gb165)); have n13_ := Aside0.mk ((n12_.out.symm)); have n14_ := Aside0.mk ((by rw [hg]; exact Nat.ne_of_lt (blk_lt (g := gb164) (o := .cells #[.float .f64 b_a3_0, .float .f64 b_a3_1] 34 (0, 0)) (by exact BK164.out)) : gb164 ≠ gb165)); have n15_ := Aside0.mk ((n14_.out.symm)); clear BK161; clear BK162; clear BK163; clear BK164; clear HB; have BK161 := n0_; have BK162 := n1_; have BK163 := n2_; have BK164 := n3_; have HB := n4_; have BK165 := n5_; have GW165 := n6_; have GE165 := n7_; have NB161_165 := n8_; have NB165_161 := n9_; have NB162_165 := n10_; have NB165_162 := n11_; have NB163_165 := n12_; have NB165_163 := n13_; have NB164_165 := n14_; have NB165_164 := n15_; clear n0_ n1_ n2_ n3_ n4_ n5_ n6_ n7_ n8_ n9_ n10_ n11_ n12_ n13_ n14_ n15_; clear hb hbox hg) | ((with_reducible refine gate_dst (N := 9) rfl ?_); refine box_event ?hg (N := 9) ?hd (cs := #[.float .f64 0, .float .f64 0]) (t := 34) ?hr ?_; (case hd => rfl); (case hg => rfl); (case hr => first | (go_simp; done) | (go_simp; rfl)); intro gb166 hg w14 hbox hb; have n0_ := Aside0.mk (blk_below (g := gb161) (o := .cells #[.float .f64 b_a0_0, .float .f64 b_a0_1] 34 (0, 0)) (by exact BK161.out) hb); have n1_ := Aside0.mk (blk_below (g := gb162) (o := .cells #[.float .f64 b_a1_0, .float .f64 b_a1_1] 34 (0, 0)) (by exact BK162.out) hb); have n2_ := Aside0.mk (blk_below (g := gb163) (o := .cells #[.float .f64 b_a2_0, .float .f64 b_a2_1] 34 (0, 0)) (by exact BK163.out) hb); have n3_ := Aside0.mk (blk_below (g := gb164) (o := .cells #[.float .f64 b_a3_0, .float .f64 b_a3_1] 34 (0, 0)) (by exact BK164.out) hb); have n4_ := Aside0.mk (blk_below (g := gb165) (o := .cells #[.float .f64 0, .float .f64 0] 34 (0, 0)) (by exact BK165.out) hb); have n5_ := Aside0.mk (below_step (by exact HB.out) hb); have n6_ := Aside0.mk (hbox); have n7_ := Aside0.mk ((by rw [hg]; exact (below_size (by exact HB.out)) : w.heap.size ≤ gb166)); have n8_ := Aside0.mk ((n7_.out)); have n9_ := Aside0.mk ((by rw [hg]; exact Nat.ne_of_lt (blk_lt (g := gb161) (o := .cells #[.float .f64 b_a0_0, .float .f64 b_a0_1] 34 (0, 0)) (by exact BK161.out)) : gb161 ≠ gb166)); have n10_ := Aside0.mk ((n9_.out.symm)); have n11_ := Aside0.mk ((by rw [hg]; exact Nat.ne_of_lt (blk_lt (g := gb162) (o := .cells #[.float .f64 b_a1_0, .float .f64 b_a1_1] 34 (0, 0)) (by exact BK162.out)) : gb162 ≠ gb166)); have n12_ := Aside0.mk ((n11_.out.symm)); have n13_ := Aside0.mk ((by rw [hg]; exact Nat.ne_of_lt (blk_lt (g := gb163) (o := .cells #[.float .f64 b_a2_0, .float .f64 b_a2_1] 34 (0, 0)) (by exact BK163.out)) : gb163 ≠ gb166)); have n14_ := Aside0.mk ((n13_.out.symm)); have n15_ := Aside0.mk ((by rw [hg]; exact Nat.ne_of_lt (blk_lt (g := gb164) (o := .cells #[.float .f64 b_a3_0, .float .f64 b_a3_1] 34 (0, 0)) (by exact BK164.out)) : gb164 ≠ gb166)); have n16_ := Aside0.mk ((n15_.out.symm)); have n17_ := Aside0.mk ((by rw [hg]; exact Nat.ne_of_lt (blk_lt (g := gb165) (o := .cells #[.float .f64 0, .float .f64 0] 34 (0, 0)) (by exact BK165.out)) : gb165 ≠ gb166)); have n18_ := Aside0.mk ((n17_.out.symm)); clear BK161; clear BK162; clear BK163; clear BK164; clear BK165; clear HB; have BK161 := n0_; have BK162 := n1_; have BK163 := n2_; have BK164 := n3_; have BK165 := n4_; have HB := n5_; have BK166 := n6_; have GW166 := n7_; have GE166 := n8_; have NB161_166 := n9_; have NB166_161 := n10_; have NB162_166 := n11_; have NB166_162 := n12_; have NB163_166 := n13_; have NB166_163 := n14_; have NB164_166 := n15_; have NB166_164 := n16_; have NB165_166 := n17_; have NB166_165 := n18_; clear n0_ n1_ n2_ n3_ n4_ n5_ n6_ n7_ n8_ n9_ n10_ n11_ n12_ n13_ n14_ n15_ n16_ n17_ n18_; clear hb hbox hg))
 have n0_ := Aside0.mk (blk_drew BK161.out)
 have n1_ := Aside0.mk (blk_drew BK162.out)
 have n2_ := Aside0.mk (blk_drew BK163.out)
 have n3_ := Aside0.mk (blk_drew BK164.out)
 have n4_ := Aside0.mk (blk_drew BK165.out)
 have n5_ := Aside0.mk (blk_drew BK166.out)
 have n6_ := Aside0.mk (below_drew1 HB.out)
 clear BK161
 clear BK162
 clear BK163
 clear BK164
 clear BK165
 clear BK166
 clear HB
 have BK161 := n0_
 have BK162 := n1_
 have BK163 := n2_
 have BK164 := n3_
 have BK165 := n4_
 have BK166 := n5_
 have HB := n6_
 clear n0_ n1_ n2_ n3_ n4_ n5_ n6_
 refine start_ (n := 12) (S := fun w' => w'.cell? ⟨gb161, 0, none⟩ = some (.float .f64 b_a0_0) ∧ w'.cell? ⟨gb161, 1, none⟩ = some (.float .f64 b_a0_1) ∧ w'.cell? ⟨gb164, 0, none⟩ = some (.float .f64 b_a3_0) ∧ w'.cell? ⟨gb164, 1, none⟩ = some (.float .f64 b_a3_1) ∧ w'.cell? ⟨gb162, 0, none⟩ = some (.float .f64 b_a1_0) ∧ w'.cell? ⟨gb162, 1, none⟩ = some (.float .f64 b_a1_1) ∧ w'.cell? ⟨gb163, 0, none⟩ = some (.float .f64 b_a2_0) ∧ w'.cell? ⟨gb163, 1, none⟩ = some (.float .f64 b_a2_1)) (ds := []) #[false, false, false, false, false, false, false, false, false, false, false, false] (by kernel_rfl) rfl rfl ⟨(blk_cell BK161.out 0).trans rfl, (blk_cell BK161.out 1).trans rfl, (blk_cell BK164.out 0).trans rfl, (blk_cell BK164.out 1).trans rfl, (blk_cell BK162.out 0).trans rfl, (blk_cell BK162.out 1).trans rfl, (blk_cell BK163.out 0).trans rfl, (blk_cell BK163.out 1).trans rfl⟩ (fun hHeld => ?_); refine with_tabW impl_Flutter.tab1 impl_Flutter.bits1 (fun HT_ HW_ => ?_)
 generalize w14.drew = w15 at BK161 BK162 BK163 BK164 BK165 BK166 HB hHeld ⊢
 refine take_ (i := 0) (N := some 10) (v := ?_) (a' := ?_) #[true, false, false, false, false, false, false, false, false, false, false, false] rfl rfl (take_ofW HT_.out HW_.out (by kernel_rfl)) (fun _ _ _ h => h) (Or.inl ⟨by rfl, ?_⟩) hHeld ?_ ?_; rotate_left
 ·rintro w' ⟨s0, s1, s2, s3, s4, s5, s6, s7⟩; go_simp; with_reducible rfl
 rotate_left
 ·simp only [Act.put, qa_, qb_, qc_, i64_w, i32_w]
  rfl
 refine take_ (i := 1) (N := some 11) (v := ?_) (a' := ?_) #[true, true, false, false, false, false, false, false, false, false, false, false] rfl rfl (take_ofW HT_.out HW_.out (by kernel_rfl)) (fun _ _ _ h => h) (Or.inl ⟨by rfl, ?_⟩) hHeld ?_ ?_; rotate_left
 ·rintro w' ⟨s0, s1, s2, s3, s4, s5, s6, s7⟩; go_simp; with_reducible rfl
 rotate_left
 ·simp only [Act.put, qa_, qb_, qc_, i64_w, i32_w]
  rfl
 refine take_ (i := 3) (N := some 13) (v := ?_) (a' := ?_) #[true, true, false, true, false, false, false, false, false, false, false, false] rfl rfl (take_ofW HT_.out HW_.out (by kernel_rfl)) (fun _ _ _ h => h) (Or.inl ⟨by rfl, ?_⟩) hHeld ?_ ?_; rotate_left
 ·rintro w' ⟨s0, s1, s2, s3, s4, s5, s6, s7⟩; go_simp; with_reducible rfl
 rotate_left
 ·simp only [Act.put, qa_, qb_, qc_, i64_w, i32_w]
  rfl
 refine take_ (i := 4) (N := some 14) (v := ?_) (a' := ?_) #[true, true, false, true, true, false, false, false, false, false, false, false] rfl rfl (take_ofW HT_.out HW_.out (by kernel_rfl)) (fun _ _ _ h => h) (Or.inl ⟨by rfl, ?_⟩) hHeld ?_ ?_; rotate_left
 ·rintro w' ⟨s0, s1, s2, s3, s4, s5, s6, s7⟩; go_simp; with_reducible rfl
 rotate_left
 ·simp only [Act.put, qa_, qb_, qc_, i64_w, i32_w]
  rfl
 refine take_ (i := 7) (N := some 17) (v := ?_) (a' := ?_) #[true, true, false, true, true, false, false, true, false, false, false, false] rfl rfl (take_ofW HT_.out HW_.out (by kernel_rfl)) (fun _ _ _ h => h) (Or.inl ⟨by rfl, ?_⟩) hHeld ?_ ?_; rotate_left
 ·rintro w' ⟨s0, s1, s2, s3, s4, s5, s6, s7⟩; go_simp; with_reducible rfl
 rotate_left
 ·simp only [Act.put, qa_, qb_, qc_, i64_w, i32_w]
  rfl
 refine take_ (i := 8) (N := some 18) (v := ?_) (a' := ?_) #[true, true, false, true, true, false, false, true, true, false, false, false] rfl rfl (take_ofW HT_.out HW_.out (by kernel_rfl)) (fun _ _ _ h => h) (Or.inl ⟨by rfl, ?_⟩) hHeld ?_ ?_; rotate_left
 ·rintro w' ⟨s0, s1, s2, s3, s4, s5, s6, s7⟩; go_simp; with_reducible rfl
 rotate_left
 ·simp only [Act.put, qa_, qb_, qc_, i64_w, i32_w]
  rfl
 refine one_ (i := 2) (N := some 12) #[true, true, true, true, true, false, false, true, true, false, false, false] rfl rfl (one_of HT_.out (by kernel_rfl)) (by decide) (fun K hK => ?_)
 refine goes_ Try.func51 (by kernel_rfl) rfl #[.agg #[.float .f64 b_a0_0, .float .f64 b_a0_1], .agg #[.float .f64 b_a3_0, .float .f64 b_a3_1]] (by rfl) rfl rfl (by (try simp only [List.map_toArray, List.map_cons, List.map_nil]); first | done | rfl | (simp only [List.length_drop, List.length_take]; rfl)) ?_
 with_reducible refine (impl_CxTimes.calls b_a0_0 a0_0 b_a0_1 a0_1 b_a3_0 a3_0 b_a3_1 a3_1 t167 t168 _ ?side1 ?side2 ?side3 ?side4 A5.out).mono ?_
 (case side1 => exact hF_a0_0)
 (case side2 => exact hF_a0_1)
 (case side3 => exact hF_a3_0)
 (case side4 => exact hF_a3_1)
 rintro e w16 ⟨b_t167, b_t168, rfl, hF_t167, hF_t168, hb⟩
 refine ⟨_, rfl, ?_⟩
 have n0_ := Aside0.mk (blk_below (g := gb161) (o := .cells #[.float .f64 b_a0_0, .float .f64 b_a0_1] 34 (0, 0)) (by (with_reducible repeat (first | refine blk_drewN ?_ _ | refine blk_drew ?_ | refine blk_alloc ?_ _)); exact BK161.out) hb)
 have n1_ := Aside0.mk (blk_below (g := gb162) (o := .cells #[.float .f64 b_a1_0, .float .f64 b_a1_1] 34 (0, 0)) (by (with_reducible repeat (first | refine blk_drewN ?_ _ | refine blk_drew ?_ | refine blk_alloc ?_ _)); exact BK162.out) hb)
 have n2_ := Aside0.mk (blk_below (g := gb163) (o := .cells #[.float .f64 b_a2_0, .float .f64 b_a2_1] 34 (0, 0)) (by (with_reducible repeat (first | refine blk_drewN ?_ _ | refine blk_drew ?_ | refine blk_alloc ?_ _)); exact BK163.out) hb)
 have n3_ := Aside0.mk (blk_below (g := gb164) (o := .cells #[.float .f64 b_a3_0, .float .f64 b_a3_1] 34 (0, 0)) (by (with_reducible repeat (first | refine blk_drewN ?_ _ | refine blk_drew ?_ | refine blk_alloc ?_ _)); exact BK164.out) hb)
 have n4_ := Aside0.mk (blk_below (g := gb165) (o := .cells #[.float .f64 0, .float .f64 0] 34 (0, 0)) (by (with_reducible repeat (first | refine blk_drewN ?_ _ | refine blk_drew ?_ | refine blk_alloc ?_ _)); exact BK165.out) hb)
 have n5_ := Aside0.mk (blk_below (g := gb166) (o := .cells #[.float .f64 0, .float .f64 0] 34 (0, 0)) (by (with_reducible repeat (first | refine blk_drewN ?_ _ | refine blk_drew ?_ | refine blk_alloc ?_ _)); exact BK166.out) hb)
 have n6_ := Aside0.mk (below_step (by repeat (first | (with_reducible first | exact HB.out | apply below_alloc | apply pw_below_drewN | apply below_drew1) | exact HB.out)) hb)
 clear BK161
 clear BK162
 clear BK163
 clear BK164
 clear BK165
 clear BK166
 clear HB
 have BK161 := n0_
 have BK162 := n1_
 have BK163 := n2_
 have BK164 := n3_
 have BK165 := n4_
 have BK166 := n5_
 have HB := n6_
 clear n0_ n1_ n2_ n3_ n4_ n5_ n6_
 (try clear hb)
 (try clear hb2)
 (try clear hk)
 (try clear hi)
 refine hK.out _ _ ⟨(blk_cell BK161.out 0).trans rfl, (blk_cell BK161.out 1).trans rfl, (blk_cell BK164.out 0).trans rfl, (blk_cell BK164.out 1).trans rfl, (blk_cell BK162.out 0).trans rfl, (blk_cell BK162.out 1).trans rfl, (blk_cell BK163.out 0).trans rfl, (blk_cell BK163.out 1).trans rfl⟩ (fun hHeld => ?_)
 clear hK K
 refine norm_ (a' := ?_) ?_ ?_; rotate_left
 ·show Act.put _ (some 12) _ = _
  simp only [Act.put, qa_, qb_, qc_, i64_w, i32_w]
  rfl
 refine one_ (i := 5) (N := some 15) #[true, true, true, true, true, true, false, true, true, false, false, false] rfl rfl (one_of HT_.out (by kernel_rfl)) (by decide) (fun K hK => ?_)
 refine goes_ Try.func51 (by kernel_rfl) rfl #[.agg #[.float .f64 b_a1_0, .float .f64 b_a1_1], .agg #[.float .f64 b_a2_0, .float .f64 b_a2_1]] (by rfl) rfl rfl (by (try simp only [List.map_toArray, List.map_cons, List.map_nil]); first | done | rfl | (simp only [List.length_drop, List.length_take]; rfl)) ?_
 with_reducible refine (impl_CxTimes.calls b_a1_0 a1_0 b_a1_1 a1_1 b_a2_0 a2_0 b_a2_1 a2_1 t169 t170 _ ?side1 ?side2 ?side3 ?side4 A6.out).mono ?_
 (case side1 => exact hF_a1_0)
 (case side2 => exact hF_a1_1)
 (case side3 => exact hF_a2_0)
 (case side4 => exact hF_a2_1)
 rintro e w17 ⟨b_t169, b_t170, rfl, hF_t169, hF_t170, hb⟩
 refine ⟨_, rfl, ?_⟩
 have n0_ := Aside0.mk (blk_below (g := gb161) (o := .cells #[.float .f64 b_a0_0, .float .f64 b_a0_1] 34 (0, 0)) (by (with_reducible repeat (first | refine blk_drewN ?_ _ | refine blk_drew ?_ | refine blk_alloc ?_ _)); exact BK161.out) hb)
 have n1_ := Aside0.mk (blk_below (g := gb162) (o := .cells #[.float .f64 b_a1_0, .float .f64 b_a1_1] 34 (0, 0)) (by (with_reducible repeat (first | refine blk_drewN ?_ _ | refine blk_drew ?_ | refine blk_alloc ?_ _)); exact BK162.out) hb)
 have n2_ := Aside0.mk (blk_below (g := gb163) (o := .cells #[.float .f64 b_a2_0, .float .f64 b_a2_1] 34 (0, 0)) (by (with_reducible repeat (first | refine blk_drewN ?_ _ | refine blk_drew ?_ | refine blk_alloc ?_ _)); exact BK163.out) hb)
 have n3_ := Aside0.mk (blk_below (g := gb164) (o := .cells #[.float .f64 b_a3_0, .float .f64 b_a3_1] 34 (0, 0)) (by (with_reducible repeat (first | refine blk_drewN ?_ _ | refine blk_drew ?_ | refine blk_alloc ?_ _)); exact BK164.out) hb)
 have n4_ := Aside0.mk (blk_below (g := gb165) (o := .cells #[.float .f64 0, .float .f64 0] 34 (0, 0)) (by (with_reducible repeat (first | refine blk_drewN ?_ _ | refine blk_drew ?_ | refine blk_alloc ?_ _)); exact BK165.out) hb)
 have n5_ := Aside0.mk (blk_below (g := gb166) (o := .cells #[.float .f64 0, .float .f64 0] 34 (0, 0)) (by (with_reducible repeat (first | refine blk_drewN ?_ _ | refine blk_drew ?_ | refine blk_alloc ?_ _)); exact BK166.out) hb)
 have n6_ := Aside0.mk (below_step (by repeat (first | (with_reducible first | exact HB.out | apply below_alloc | apply pw_below_drewN | apply below_drew1) | exact HB.out)) hb)
 clear BK161
 clear BK162
 clear BK163
 clear BK164
 clear BK165
 clear BK166
 clear HB
 have BK161 := n0_
 have BK162 := n1_
 have BK163 := n2_
 have BK164 := n3_
 have BK165 := n4_
 have BK166 := n5_
 have HB := n6_
 clear n0_ n1_ n2_ n3_ n4_ n5_ n6_
 (try clear hb)
 (try clear hb2)
 (try clear hk)
 (try clear hi)
 refine hK.out _ _ ⟨(blk_cell BK161.out 0).trans rfl, (blk_cell BK161.out 1).trans rfl, (blk_cell BK164.out 0).trans rfl, (blk_cell BK164.out 1).trans rfl, (blk_cell BK162.out 0).trans rfl, (blk_cell BK162.out 1).trans rfl, (blk_cell BK163.out 0).trans rfl, (blk_cell BK163.out 1).trans rfl⟩ (fun hHeld => ?_)
 clear hK K
 refine norm_ (a' := ?_) ?_ ?_; rotate_left
 ·show Act.put _ (some 15) _ = _
  simp only [Act.put, qa_, qb_, qc_, i64_w, i32_w]
  rfl
 refine one_ (i := 6) (N := some 16) #[true, true, true, true, true, true, true, true, true, false, false, false] rfl rfl (one_of HT_.out (by kernel_rfl)) (by decide) (fun K hK => ?_)
 refine goes_ Try.func54 (by kernel_rfl) rfl #[.agg #[.float .f64 b_t167, .float .f64 b_t168], .agg #[.float .f64 b_t169, .float .f64 b_t170]] (by rfl) rfl rfl (by (try simp only [List.map_toArray, List.map_cons, List.map_nil]); first | done | rfl | (simp only [List.length_drop, List.length_take]; rfl)) ?_
 with_reducible refine (impl_CxLess.calls b_t167 t167 b_t168 t168 b_t169 t169 b_t170 t170 t171 t172 _ ?side1 ?side2 ?side3 ?side4 A7.out).mono ?_
 (case side1 => exact hF_t167)
 (case side2 => exact hF_t168)
 (case side3 => exact hF_t169)
 (case side4 => exact hF_t170)
 rintro e w18 ⟨b_t171, b_t172, rfl, hF_t171, hF_t172, hb⟩
 refine ⟨_, rfl, ?_⟩
 have n0_ := Aside0.mk (blk_below (g := gb161) (o := .cells #[.float .f64 b_a0_0, .float .f64 b_a0_1] 34 (0, 0)) (by (with_reducible repeat (first | refine blk_drewN ?_ _ | refine blk_drew ?_ | refine blk_alloc ?_ _)); exact BK161.out) hb)
 have n1_ := Aside0.mk (blk_below (g := gb162) (o := .cells #[.float .f64 b_a1_0, .float .f64 b_a1_1] 34 (0, 0)) (by (with_reducible repeat (first | refine blk_drewN ?_ _ | refine blk_drew ?_ | refine blk_alloc ?_ _)); exact BK162.out) hb)
 have n2_ := Aside0.mk (blk_below (g := gb163) (o := .cells #[.float .f64 b_a2_0, .float .f64 b_a2_1] 34 (0, 0)) (by (with_reducible repeat (first | refine blk_drewN ?_ _ | refine blk_drew ?_ | refine blk_alloc ?_ _)); exact BK163.out) hb)
 have n3_ := Aside0.mk (blk_below (g := gb164) (o := .cells #[.float .f64 b_a3_0, .float .f64 b_a3_1] 34 (0, 0)) (by (with_reducible repeat (first | refine blk_drewN ?_ _ | refine blk_drew ?_ | refine blk_alloc ?_ _)); exact BK164.out) hb)
 have n4_ := Aside0.mk (blk_below (g := gb165) (o := .cells #[.float .f64 0, .float .f64 0] 34 (0, 0)) (by (with_reducible repeat (first | refine blk_drewN ?_ _ | refine blk_drew ?_ | refine blk_alloc ?_ _)); exact BK165.out) hb)
 have n5_ := Aside0.mk (blk_below (g := gb166) (o := .cells #[.float .f64 0, .float .f64 0] 34 (0, 0)) (by (with_reducible repeat (first | refine blk_drewN ?_ _ | refine blk_drew ?_ | refine blk_alloc ?_ _)); exact BK166.out) hb)
 have n6_ := Aside0.mk (below_step (by repeat (first | (with_reducible first | exact HB.out | apply below_alloc | apply pw_below_drewN | apply below_drew1) | exact HB.out)) hb)
 clear BK161
 clear BK162
 clear BK163
 clear BK164
 clear BK165
 clear BK166
 clear HB
 have BK161 := n0_
 have BK162 := n1_
 have BK163 := n2_
 have BK164 := n3_
 have BK165 := n4_
 have BK166 := n5_
 have HB := n6_
 clear n0_ n1_ n2_ n3_ n4_ n5_ n6_
 (try clear hb)
 (try clear hb2)
 (try clear hk)
 (try clear hi)
 refine hK.out _ _ ⟨(blk_cell BK161.out 0).trans rfl, (blk_cell BK161.out 1).trans rfl, (blk_cell BK164.out 0).trans rfl, (blk_cell BK164.out 1).trans rfl, (blk_cell BK162.out 0).trans rfl, (blk_cell BK162.out 1).trans rfl, (blk_cell BK163.out 0).trans rfl, (blk_cell BK163.out 1).trans rfl⟩ (fun hHeld => ?_)
 clear hK K
 refine norm_ (a' := ?_) ?_ ?_; rotate_left
 ·show Act.put _ (some 16) _ = _
  simp only [Act.put, qa_, qb_, qc_, i64_w, i32_w]
  rfl
 refine one_ (i := 9) (N := some 19) #[true, true, true, true, true, true, true, true, true, true, false, false] rfl rfl (one_of HT_.out (by kernel_rfl)) (by decide) (fun K hK => ?_)
 refine goes_ Try.func60 (by kernel_rfl) rfl #[.agg #[.float .f64 b_a0_0, .float .f64 b_a0_1], .agg #[.float .f64 b_a3_0, .float .f64 b_a3_1]] (by rfl) rfl rfl (by (try simp only [List.map_toArray, List.map_cons, List.map_nil]); first | done | rfl | (simp only [List.length_drop, List.length_take]; rfl)) ?_
 with_reducible refine (impl_CxAdd.calls b_a0_0 a0_0 b_a0_1 a0_1 b_a3_0 a3_0 b_a3_1 a3_1 t173 t174 _ ?side1 ?side2 ?side3 ?side4 A8.out).mono ?_
 (case side1 => exact hF_a0_0)
 (case side2 => exact hF_a0_1)
 (case side3 => exact hF_a3_0)
 (case side4 => exact hF_a3_1)
 rintro e w19 ⟨b_t173, b_t174, rfl, hF_t173, hF_t174, hb⟩
 refine ⟨_, rfl, ?_⟩
 have n0_ := Aside0.mk (blk_below (g := gb161) (o := .cells #[.float .f64 b_a0_0, .float .f64 b_a0_1] 34 (0, 0)) (by (with_reducible repeat (first | refine blk_drewN ?_ _ | refine blk_drew ?_ | refine blk_alloc ?_ _)); exact BK161.out) hb)
 have n1_ := Aside0.mk (blk_below (g := gb162) (o := .cells #[.float .f64 b_a1_0, .float .f64 b_a1_1] 34 (0, 0)) (by (with_reducible repeat (first | refine blk_drewN ?_ _ | refine blk_drew ?_ | refine blk_alloc ?_ _)); exact BK162.out) hb)
 have n2_ := Aside0.mk (blk_below (g := gb163) (o := .cells #[.float .f64 b_a2_0, .float .f64 b_a2_1] 34 (0, 0)) (by (with_reducible repeat (first | refine blk_drewN ?_ _ | refine blk_drew ?_ | refine blk_alloc ?_ _)); exact BK163.out) hb)
 have n3_ := Aside0.mk (blk_below (g := gb164) (o := .cells #[.float .f64 b_a3_0, .float .f64 b_a3_1] 34 (0, 0)) (by (with_reducible repeat (first | refine blk_drewN ?_ _ | refine blk_drew ?_ | refine blk_alloc ?_ _)); exact BK164.out) hb)
 have n4_ := Aside0.mk (blk_below (g := gb165) (o := .cells #[.float .f64 0, .float .f64 0] 34 (0, 0)) (by (with_reducible repeat (first | refine blk_drewN ?_ _ | refine blk_drew ?_ | refine blk_alloc ?_ _)); exact BK165.out) hb)
 have n5_ := Aside0.mk (blk_below (g := gb166) (o := .cells #[.float .f64 0, .float .f64 0] 34 (0, 0)) (by (with_reducible repeat (first | refine blk_drewN ?_ _ | refine blk_drew ?_ | refine blk_alloc ?_ _)); exact BK166.out) hb)
 have n6_ := Aside0.mk (below_step (by repeat (first | (with_reducible first | exact HB.out | apply below_alloc | apply pw_below_drewN | apply below_drew1) | exact HB.out)) hb)
 clear BK161
 clear BK162
 clear BK163
 clear BK164
 clear BK165
 clear BK166
 clear HB
 have BK161 := n0_
 have BK162 := n1_
 have BK163 := n2_
 have BK164 := n3_
 have BK165 := n4_
 have BK166 := n5_
 have HB := n6_
 clear n0_ n1_ n2_ n3_ n4_ n5_ n6_
 (try clear hb)
 (try clear hb2)
 (try clear hk)
 (try clear hi)
 refine hK.out _ _ ⟨(blk_cell BK161.out 0).trans rfl, (blk_cell BK161.out 1).trans rfl, (blk_cell BK164.out 0).trans rfl, (blk_cell BK164.out 1).trans rfl, (blk_cell BK162.out 0).trans rfl, (blk_cell BK162.out 1).trans rfl, (blk_cell BK163.out 0).trans rfl, (blk_cell BK163.out 1).trans rfl⟩ (fun hHeld => ?_)
 clear hK K
 refine norm_ (a' := ?_) ?_ ?_; rotate_left
 ·show Act.put _ (some 19) _ = _
  simp only [Act.put, qa_, qb_, qc_, i64_w, i32_w]
  rfl
 refine one_ (i := 10) (N := none) #[true, true, true, true, true, true, true, true, true, true, true, false] rfl rfl (one_of HT_.out (by kernel_rfl)) (by decide) (fun K hK => ?_)
 have hs20 : w19.cell? ⟨gb165, 0, none⟩ = some (.float .f64 0) := (blk_cell BK165.out 0).trans rfl
 have hfs20 := blk_frozen BK165.out 0
 have hns20_0 := NB161_165.out
 have hns20_1 := NB162_165.out
 have hns20_2 := NB163_165.out
 have hns20_3 := NB164_165.out
 have hns20_5 := NB166_165.out
 have hms20_0 := NB165_161.out
 have hms20_1 := NB165_162.out
 have hms20_2 := NB165_163.out
 have hms20_3 := NB165_164.out
 have hms20_5 := NB165_166.out
 have hs21 : w19.cell? ⟨gb165, 1, none⟩ = some (.float .f64 0) := (blk_cell BK165.out 1).trans rfl
 have hfs21 := blk_frozen BK165.out 1
 have hns21_0 := NB161_165.out
 have hns21_1 := NB162_165.out
 have hns21_2 := NB163_165.out
 have hns21_3 := NB164_165.out
 have hns21_5 := NB166_165.out
 have hms21_0 := NB165_161.out
 have hms21_1 := NB165_162.out
 have hms21_2 := NB165_163.out
 have hms21_3 := NB165_164.out
 have hms21_5 := NB165_166.out
 refine skip_ (w1 := ?_) (by rfl) rfl ?_ ?_; rotate_left
 ·go_simp
  rfl
 refine hK.out _ _ ⟨((cell_far (p := ⟨gb165, _, none⟩) NB161_165.out _).trans (((cell_far (p := ⟨gb165, _, none⟩) NB161_165.out _).trans (hHeld.1)))), ((cell_far (p := ⟨gb165, _, none⟩) NB161_165.out _).trans (((cell_far (p := ⟨gb165, _, none⟩) NB161_165.out _).trans (hHeld.2.1)))), ((cell_far (p := ⟨gb165, _, none⟩) NB164_165.out _).trans (((cell_far (p := ⟨gb165, _, none⟩) NB164_165.out _).trans (hHeld.2.2.1)))), ((cell_far (p := ⟨gb165, _, none⟩) NB164_165.out _).trans (((cell_far (p := ⟨gb165, _, none⟩) NB164_165.out _).trans (hHeld.2.2.2.1)))), ((cell_far (p := ⟨gb165, _, none⟩) NB162_165.out _).trans (((cell_far (p := ⟨gb165, _, none⟩) NB162_165.out _).trans (hHeld.2.2.2.2.1)))), ((cell_far (p := ⟨gb165, _, none⟩) NB162_165.out _).trans (((cell_far (p := ⟨gb165, _, none⟩) NB162_165.out _).trans (hHeld.2.2.2.2.2.1)))), ((cell_far (p := ⟨gb165, _, none⟩) NB163_165.out _).trans (((cell_far (p := ⟨gb165, _, none⟩) NB163_165.out _).trans (hHeld.2.2.2.2.2.2.1)))), ((cell_far (p := ⟨gb165, _, none⟩) NB163_165.out _).trans (((cell_far (p := ⟨gb165, _, none⟩) NB163_165.out _).trans (hHeld.2.2.2.2.2.2.2))))⟩ (fun hHeld => ?_)
 clear hK K
 refine one_ (i := 11) (N := none) #[true, true, true, true, true, true, true, true, true, true, true, true] rfl rfl (one_of HT_.out (by kernel_rfl)) (by decide) (fun K hK => ?_)
 have hs22 : w19.cell? ⟨gb166, 0, none⟩ = some (.float .f64 0) := (blk_cell BK166.out 0).trans rfl
 have hfs22 := blk_frozen BK166.out 0
 have hns22_0 := NB161_166.out
 have hns22_1 := NB162_166.out
 have hns22_2 := NB163_166.out
 have hns22_3 := NB164_166.out
 have hns22_4 := NB165_166.out
 have hms22_0 := NB166_161.out
 have hms22_1 := NB166_162.out
 have hms22_2 := NB166_163.out
 have hms22_3 := NB166_164.out
 have hms22_4 := NB166_165.out
 have hs23 : w19.cell? ⟨gb166, 1, none⟩ = some (.float .f64 0) := (blk_cell BK166.out 1).trans rfl
 have hfs23 := blk_frozen BK166.out 1
 have hns23_0 := NB161_166.out
 have hns23_1 := NB162_166.out
 have hns23_2 := NB163_166.out
 have hns23_3 := NB164_166.out
 have hns23_4 := NB165_166.out
 have hms23_0 := NB166_161.out
 have hms23_1 := NB166_162.out
 have hms23_2 := NB166_163.out
 have hms23_3 := NB166_164.out
 have hms23_4 := NB166_165.out
 refine skip_ (w1 := ?_) (by rfl) rfl ?_ ?_; rotate_left
 ·go_simp
  rfl
 refine hK.out _ _ ⟨((cell_far (p := ⟨gb166, _, none⟩) NB161_166.out _).trans (((cell_far (p := ⟨gb166, _, none⟩) NB161_166.out _).trans (hHeld.1)))), ((cell_far (p := ⟨gb166, _, none⟩) NB161_166.out _).trans (((cell_far (p := ⟨gb166, _, none⟩) NB161_166.out _).trans (hHeld.2.1)))), ((cell_far (p := ⟨gb166, _, none⟩) NB164_166.out _).trans (((cell_far (p := ⟨gb166, _, none⟩) NB164_166.out _).trans (hHeld.2.2.1)))), ((cell_far (p := ⟨gb166, _, none⟩) NB164_166.out _).trans (((cell_far (p := ⟨gb166, _, none⟩) NB164_166.out _).trans (hHeld.2.2.2.1)))), ((cell_far (p := ⟨gb166, _, none⟩) NB162_166.out _).trans (((cell_far (p := ⟨gb166, _, none⟩) NB162_166.out _).trans (hHeld.2.2.2.2.1)))), ((cell_far (p := ⟨gb166, _, none⟩) NB162_166.out _).trans (((cell_far (p := ⟨gb166, _, none⟩) NB162_166.out _).trans (hHeld.2.2.2.2.2.1)))), ((cell_far (p := ⟨gb166, _, none⟩) NB163_166.out _).trans (((cell_far (p := ⟨gb166, _, none⟩) NB163_166.out _).trans (hHeld.2.2.2.2.2.2.1)))), ((cell_far (p := ⟨gb166, _, none⟩) NB163_166.out _).trans (((cell_far (p := ⟨gb166, _, none⟩) NB163_166.out _).trans (hHeld.2.2.2.2.2.2.2))))⟩ (fun hHeld => ?_)
 clear hK K
 refine done_ (done_of HT_.out (by kernel_rfl)) ?_
 try go_wp2
 refine bodyPost_ret (results_cc rfl _ _ gb165 gb166 34 34 #[.float .f64 b_t171, .float .f64 b_t172] #[.float .f64 b_t173, .float .f64 b_t174] (0, 0) (0, 0) _ _ rfl (by (with_reducible repeat (first | refine blk_drewN ?_ _ | refine blk_drew ?_ | refine blk_alloc ?_ _)); refine blk_far ?_ NB165_166.out _; (with_reducible repeat (first | refine blk_drewN ?_ _ | refine blk_drew ?_ | refine blk_alloc ?_ _)); refine blk_far ?_ NB165_166.out _; (with_reducible repeat (first | refine blk_drewN ?_ _ | refine blk_drew ?_ | refine blk_alloc ?_ _)); refine blk_put (cs := #[.float .f64 b_t171, .float .f64 0]) ?_ 1 _ rfl; (with_reducible repeat (first | refine blk_drewN ?_ _ | refine blk_drew ?_ | refine blk_alloc ?_ _)); refine blk_put (cs := #[.float .f64 0, .float .f64 0]) ?_ 0 _ rfl; (with_reducible repeat (first | refine blk_drewN ?_ _ | refine blk_drew ?_ | refine blk_alloc ?_ _)); exact BK165.out) Try.underlying34 rfl (by kernel_rfl) rfl (by (with_reducible repeat (first | refine blk_drewN ?_ _ | refine blk_drew ?_ | refine blk_alloc ?_ _)); refine blk_put (cs := #[.float .f64 b_t173, .float .f64 0]) ?_ 1 _ rfl; (with_reducible repeat (first | refine blk_drewN ?_ _ | refine blk_drew ?_ | refine blk_alloc ?_ _)); refine blk_put (cs := #[.float .f64 0, .float .f64 0]) ?_ 0 _ rfl; (with_reducible repeat (first | refine blk_drewN ?_ _ | refine blk_drew ?_ | refine blk_alloc ?_ _)); refine blk_far ?_ NB166_165.out _; (with_reducible repeat (first | refine blk_drewN ?_ _ | refine blk_drew ?_ | refine blk_alloc ?_ _)); refine blk_far ?_ NB166_165.out _; (with_reducible repeat (first | refine blk_drewN ?_ _ | refine blk_drew ?_ | refine blk_alloc ?_ _)); exact BK166.out) Try.underlying34 rfl (by kernel_rfl)) rfl ?_
 exact ⟨b_t171, b_t172, b_t173, b_t174, by first | rfl | (simp [errW_none, errW_some] <;> rfl) | (simp [*, errW_none, errW_some] <;> rfl), hF_t171, hF_t172, hF_t173, hF_t174, by repeat (first | (with_reducible first | exact HB.out | apply below_alloc | apply pw_below_drewN | apply below_drew1 | refine below_set ?_ GE165.out | refine below_set ?_ GE166.out) | exact HB.out)⟩

end Go.Proofs.Ytfopdbdamkfglaa.QFnQuotient
