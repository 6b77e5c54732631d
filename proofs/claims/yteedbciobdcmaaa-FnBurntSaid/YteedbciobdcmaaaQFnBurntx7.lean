/- Lean functions that tell what the Go functions used by one law answer, and for each a proof that the Go code comes to just these answers; no condition. Printed by this session's own program over the kit's printer. -/
import Derived.Test.YteedbciobdcmaaaQFnBurntx0
import Derived.Test.YteedbciobdcmaaaQFnBurntx1
import Derived.Test.YteedbciobdcmaaaQFnBurntx2
import Derived.Test.YteedbciobdcmaaaQFnBurntx3
import Derived.Test.YteedbciobdcmaaaQFnBurntx5
import Derived.Test.YteedbciobdcmaaaQFnBurntx6
namespace Go.Proofs.Yteedbciobdcmaaa.QFnBurnt
open Go.RowKit Go.Proofs.YteedbciobdcmaaaW.PrintWords Go.Proofs.YteedbciobdcmaaaW.PrintLast Go.Proofs.YteedbciobdcmaaaW.PrintMore
attribute [local go_sem] max2_int min2_int max_two min_two max_three min_three max_four min_four   -- for this text's walks alone
attribute [local go_sem high] go_eql go_neq go_lss go_leq go_gtr go_geq go_store   -- for this text's walks alone
set_option linter.unusedVariables false
set_option linter.unusedSimpArgs false

/-! ### impl_Leaves: function 15 -/
mutual
def impl_Leaves.j0 : Nat → List (S60) → List (S62) → Bool → List Int → List Int → List Int → Int → Int → Option (Int)
 | 0, _, _, _, _, _, _, _, _ => none
 | k + 1, x2, x3, x28, x168000, x168001, x168002, x169000, x169001 => if x28 = true then (some (-2)) else ((impl_laden.f k x169000 x169001 x2).bind fun bt174 => ((impl_inside.f k x168000 x168001 x168002 bt174.1 bt174.2).bind fun t176 => (if t176 = true then ((impl_FuelTank_41.f x2).bind fun t177 => (impl_Leaves.l0 k x3 t177 x3 (x3.length : Int) 0 x168000 x168001 x168002 x169000 x169001)) else (some (-1)))))
def impl_Leaves.l0 : Nat → List (S62) → List (S60) → List (S62) → Int → Int → List Int → List Int → List Int → Int → Int → Option (Int)
 | 0, _, _, _, _, _, _, _, _, _, _ => none
 | k + 1, x3, x11, x37, x38, x39, x168000, x168001, x168002, x169000, x169001 => if x39 < x38 then (if 0 ≤ x39 then (if x39 < (x37.length : Int) then (if 0 ≤ ((rd_T62 x37 x39).f0) then (if ((rd_T62 x37 x39).f0) < (x11.length : Int) then ((some (x11.set (((rd_T62 x37 x39).f0) : Int).toNat (⟨wrap64 (((rd_T60 x11 ((rd_T62 x37 x39).f0)).f0) - ((rd_T62 x37 x39).f1)), (rd_T60 x11 ((rd_T62 x37 x39).f0)).f1⟩ : S60) : List (S60))).bind fun y183 => ((impl_laden.f k x169000 x169001 y183).bind fun bt184 => ((impl_inside.f k x168000 x168001 x168002 bt184.1 bt184.2).bind fun t186 => (if t186 = true then (impl_Leaves.l0 k x3 y183 x37 x38 (wrap64 (x39 + 1)) x168000 x168001 x168002 x169000 x169001) else (some x39))))) else (none)) else (none)) else (none)) else (none)) else (some (x3.length : Int))
end
def impl_Leaves.f (k : Nat) (l0_0 : List Int) (l0_1 : List Int) (l0_2 : List Int) (a1_0 : Int) (a1_1 : Int) (l2 : List (S60)) (l3 : List (S62)) : Option (Int) := (impl_Burnt.f k l2 l3).bind fun bt169 => (if bt169.2 = (-1) then ((impl_ladenOk.f k l0_0 l0_1 l0_2 a1_0 a1_1 l2).bind fun t173 => (impl_Leaves.j0 k l2 l3 (!t173) l0_0 l0_1 l0_2 a1_0 a1_1)) else (impl_Leaves.j0 k l2 l3 true l0_0 l0_1 l0_2 a1_0 a1_1))
theorem impl_Leaves.mono_l : ∀ k, (∀ y0 y1 y2 y3 y4 y5 y6 y7, LeO (impl_Leaves.j0 k y0 y1 y2 y3 y4 y5 y6 y7) (impl_Leaves.j0 (k + 1) y0 y1 y2 y3 y4 y5 y6 y7)) ∧ (∀ y0 y1 y2 y3 y4 y5 y6 y7 y8 y9, LeO (impl_Leaves.l0 k y0 y1 y2 y3 y4 y5 y6 y7 y8 y9) (impl_Leaves.l0 (k + 1) y0 y1 y2 y3 y4 y5 y6 y7 y8 y9))
 | 0 => ⟨fun _ _ _ _ _ _ _ _ r h => by simp [impl_Leaves.j0] at h, fun _ _ _ _ _ _ _ _ _ _ r h => by simp [impl_Leaves.l0] at h⟩
 | k + 1 => by
  obtain ⟨ih0, ih1⟩ := impl_Leaves.mono_l k
  refine ⟨?_, ?_⟩
  ·intro y0 y1 y2 y3 y4 y5 y6 y7
   unfold impl_Leaves.j0
   repeat' first
   | (with_reducible exact ih0 _ _ _ _ _ _ _ _)
   | (with_reducible exact ih1 _ _ _ _ _ _ _ _ _ _)
   | (with_reducible exact impl_Burnt.mono _ _ _)
   | (with_reducible exact impl_inside.mono _ _ _ _ _ _)
   | (with_reducible exact impl_laden.mono _ _ _ _)
   | (with_reducible exact impl_ladenOk.mono _ _ _ _ _ _ _)
   | (with_reducible exact LeO.refl _)
   | (with_reducible exact LeO.none _)
   | (with_reducible refine LeO.ite ?_ ?_)
   | (with_reducible refine LeO.bind ?_ (fun _ => ?_))
   | exact ih0 _ _ _ _ _ _ _ _
   | exact ih1 _ _ _ _ _ _ _ _ _ _
   | exact impl_Burnt.mono _ _ _
   | exact impl_inside.mono _ _ _ _ _ _
   | exact impl_laden.mono _ _ _ _
   | exact impl_ladenOk.mono _ _ _ _ _ _ _
   | exact LeO.none _
   | refine LeO.ite ?_ ?_
   | refine LeO.bind ?_ (fun _ => ?_)
  ·intro y0 y1 y2 y3 y4 y5 y6 y7 y8 y9
   unfold impl_Leaves.l0
   repeat' first
   | (with_reducible exact ih0 _ _ _ _ _ _ _ _)
   | (with_reducible exact ih1 _ _ _ _ _ _ _ _ _ _)
   | (with_reducible exact impl_Burnt.mono _ _ _)
   | (with_reducible exact impl_inside.mono _ _ _ _ _ _)
   | (with_reducible exact impl_laden.mono _ _ _ _)
   | (with_reducible exact impl_ladenOk.mono _ _ _ _ _ _ _)
   | (with_reducible exact LeO.refl _)
   | (with_reducible exact LeO.none _)
   | (with_reducible refine LeO.ite ?_ ?_)
   | (with_reducible refine LeO.bind ?_ (fun _ => ?_))
   | exact ih0 _ _ _ _ _ _ _ _
   | exact ih1 _ _ _ _ _ _ _ _ _ _
   | exact impl_Burnt.mono _ _ _
   | exact impl_inside.mono _ _ _ _ _ _
   | exact impl_laden.mono _ _ _ _
   | exact impl_ladenOk.mono _ _ _ _ _ _ _
   | exact LeO.none _
   | refine LeO.ite ?_ ?_
   | refine LeO.bind ?_ (fun _ => ?_)
theorem impl_Leaves.mono : ∀ a0 a1 a2 a3 a4 a5 a6 k, LeO (impl_Leaves.f k a0 a1 a2 a3 a4 a5 a6) (impl_Leaves.f (k + 1) a0 a1 a2 a3 a4 a5 a6) := by
 intro a0 a1 a2 a3 a4 a5 a6 k
 obtain ⟨ih0, ih1⟩ := impl_Leaves.mono_l k
 unfold impl_Leaves.f
 repeat' first
   | (with_reducible exact ih0 _ _ _ _ _ _ _ _)
   | (with_reducible exact ih1 _ _ _ _ _ _ _ _ _ _)
   | (with_reducible exact impl_Burnt.mono _ _ _)
   | (with_reducible exact impl_inside.mono _ _ _ _ _ _)
   | (with_reducible exact impl_laden.mono _ _ _ _)
   | (with_reducible exact impl_ladenOk.mono _ _ _ _ _ _ _)
   | (with_reducible exact LeO.refl _)
   | (with_reducible exact LeO.none _)
   | (with_reducible refine LeO.ite ?_ ?_)
   | (with_reducible refine LeO.bind ?_ (fun _ => ?_))
   | exact ih0 _ _ _ _ _ _ _ _
   | exact ih1 _ _ _ _ _ _ _ _ _ _
   | exact impl_Burnt.mono _ _ _
   | exact impl_inside.mono _ _ _ _ _ _
   | exact impl_laden.mono _ _ _ _
   | exact impl_ladenOk.mono _ _ _ _ _ _ _
   | exact LeO.none _
   | refine LeO.ite ?_ ?_
   | refine LeO.bind ?_ (fun _ => ?_)
def impl_Leaves.T10 : Bool × List (List Nat × List Nat) := (true, [([], []), ([], []), ([1], [1]), ([0, 2], [0, 2]), ([3], [3]), ([4], [4]), ([], []), ([6], [6]), ([5, 7], [5, 7]), ([0, 2, 0, 1, 2, 3, 4, 5, 6, 7, 8], [0, 2]), ([9, 0, 1, 2, 3, 4, 5, 6, 7, 8], [9]), ([10, 8, 0, 1, 2, 3, 4, 5, 6, 7, 8], [8, 10])])
def impl_Leaves.B10 : List Nat := [0, 0, 2, 7, 15, 31, 0, 64, 255, 511, 1023, 2047]
theorem impl_Leaves.tab10 : rtab .any (opsOf Try.f15 10) = impl_Leaves.T10 := by kernel_rfl
theorem impl_Leaves.bits10 : waitsOk impl_Leaves.T10.2 impl_Leaves.B10 = true := by kernel_rfl
set_option maxHeartbeats 8000000 in
set_option maxRecDepth 100000 in
theorem impl_Leaves.calls (k : Nat) (A0_0 : Option Addr) (c0_0 : Nat) (l0_0 : List Int) (A0_1 : Option Addr) (c0_1 : Nat) (l0_1 : List Int) (A0_2 : Option Addr) (c0_2 : Nat) (l0_2 : List Int) (a1_0 : Int) (a1_1 : Int) (A2 : Option Addr) (c2 : Nat) (l2 : List (S60)) (A3 : Option Addr) (c3 : Nat) (l3 : List (S62)) (r : Int) (w : World) (hr0_0 : Kd.C (Kd.int .i64) w A0_0 l0_0.length l0_0) (hc0_0 : l0_0.length ≤ c0_0) (hr0_1 : Kd.C (Kd.int .i64) w A0_1 l0_1.length l0_1) (hc0_1 : l0_1.length ≤ c0_1) (hr0_2 : Kd.C (Kd.int .i64) w A0_2 l0_2.length l0_2) (hc0_2 : l0_2.length ≤ c0_2) (hr2 : Kd.C k60 w A2 l2.length l2) (hc2 : l2.length ≤ c2) (hr3 : Kd.C k62 w A3 l3.length l3) (hc3 : l3.length ≤ c3) (h : impl_Leaves.f k l0_0 l0_1 l0_2 a1_0 a1_1 l2 l3 = some r) :
  Calls Try.prog 15 #[.agg #[.slice A0_0 l0_0.length c0_0, .slice A0_1 l0_1.length c0_1, .slice A0_2 l0_2.length c0_2], .agg #[.int .i64 a1_0, .int .i64 a1_1], .slice A2 l2.length c2, .slice A3 l3.length c3] w fun e w' => e = .returned (.int .i64 r) ∧ Below w.heap.size w w' := by
 have hu33 := Try.underlying33
 have hu35 := Try.underlying35
 have hu62 := Try.underlying62
 have HR0_0 := Aside0.mk hr0_0
 have HC0_0 := Aside0.mk hc0_0
 clear hr0_0 hc0_0
 have HR0_1 := Aside0.mk hr0_1
 have HC0_1 := Aside0.mk hc0_1
 clear hr0_1 hc0_1
 have HR0_2 := Aside0.mk hr0_2
 have HC0_2 := Aside0.mk hc0_2
 clear hr0_2 hc0_2
 have HR2 := Aside0.mk hr2
 have HC2 := Aside0.mk hc2
 clear hr2 hc2
 have HR3 := Aside0.mk hr3
 have HC3 := Aside0.mk hc3
 clear hr3 hc3
 have HB := Aside0.mk (Below.refl w.heap.size w)
 have H : ((impl_Burnt.f k l2 l3).bind fun bt169 => (if bt169.2 = (-1) then ((impl_ladenOk.f k l0_0 l0_1 l0_2 a1_0 a1_1 l2).bind fun t173 => (impl_Leaves.j0 k l2 l3 (!t173) l0_0 l0_1 l0_2 a1_0 a1_1)) else (impl_Leaves.j0 k l2 l3 true l0_0 l0_1 l0_2 a1_0 a1_1))) = some r := h
 clear h
 replace H := Option.bind_eq_some_iff.mp H
 obtain ⟨⟨t169, t170⟩, A50, H⟩ := H
 replace H : (if t170 = (-1) then ((impl_ladenOk.f k l0_0 l0_1 l0_2 a1_0 a1_1 l2).bind fun t173 => (impl_Leaves.j0 k l2 l3 (!t173) l0_0 l0_1 l0_2 a1_0 a1_1)) else (impl_Leaves.j0 k l2 l3 true l0_0 l0_1 l0_2 a1_0 a1_1)) = some r := H
 have A5 := Aside0.mk A50
 clear A50
 have HC6 := Aside0.mk H
 clear H
 go_enter Try.func15, Try.ntmps15
 go_upto_region 2 with (first | ((with_reducible refine gate_dst (N := 4) rfl ?_); refine box_event ?hg (N := 4) ?hd (cs := #[.slice A0_0 l0_0.length c0_0, .slice A0_1 l0_1.length c0_1, .slice A0_2 l0_2.length c0_2]) (t := 33) ?hr ?_; (case hd => rfl); (case hg => rfl); (case hr => first | (go_simp; done) | (go_simp; rfl)); intro gb167 hg w7 hbox hb; have n0_ := Aside0.mk (below_step (by exact HB.out) hb); have n1_ := Aside0.mk (hbox); have n2_ := Aside0.mk ((by rw [hg]; exact (below_size (by exact HB.out)) : w.heap.size ≤ gb167)); have n3_ := Aside0.mk ((n2_.out)); clear HB; have HB := n0_; have BK167 := n1_; have GW167 := n2_; have GE167 := n3_; clear n0_ n1_ n2_ n3_; clear hb hbox hg) | ((with_reducible refine gate_dst (N := 5) rfl ?_); refine box_event ?hg (N := 5) ?hd (cs := #[.int .i64 a1_0, .int .i64 a1_1]) (t := 35) ?hr ?_; (case hd => rfl); (case hg => rfl); (case hr => first | (go_simp; done) | (go_simp; rfl)); intro gb168 hg w8 hbox hb; have n0_ := Aside0.mk (blk_below (g := gb167) (o := .cells #[.slice A0_0 l0_0.length c0_0, .slice A0_1 l0_1.length c0_1, .slice A0_2 l0_2.length c0_2] 33 (0, 0)) (by exact BK167.out) hb); have n1_ := Aside0.mk (below_step (by exact HB.out) hb); have n2_ := Aside0.mk (hbox); have n3_ := Aside0.mk ((by rw [hg]; exact (below_size (by exact HB.out)) : w.heap.size ≤ gb168)); have n4_ := Aside0.mk ((n3_.out)); have n5_ := Aside0.mk ((by rw [hg]; exact Nat.ne_of_lt (blk_lt (g := gb167) (o := .cells #[.slice A0_0 l0_0.length c0_0, .slice A0_1 l0_1.length c0_1, .slice A0_2 l0_2.length c0_2] 33 (0, 0)) (by exact BK167.out)) : gb167 ≠ gb168)); have n6_ := Aside0.mk ((n5_.out.symm)); clear BK167; clear HB; have BK167 := n0_; have HB := n1_; have BK168 := n2_; have GW168 := n3_; have GE168 := n4_; have NB167_168 := n5_; have NB168_167 := n6_; clear n0_ n1_ n2_ n3_ n4_ n5_ n6_; clear hb hbox hg) | ((with_reducible refine gate_callee (f := 26) rfl ?_); refine goesL_ (some 17) rfl rfl Try.func26 (by kernel_rfl) rfl #[.slice A2 l2.length c2, .slice A3 l3.length c3] rfl (by (try simp only [List.map_toArray, List.map_cons, List.map_nil]); first | done | rfl | (simp only [List.length_drop, List.length_take]; rfl)) ?_; (with_reducible refine (impl_Burnt.calls k _ _ l2 _ _ l3 t169 t170 _ ?side1 ?side2 ?side3 ?side4 A5.out).mono ?_); (case side1 => repeat (first | exact (Kd.C_below HR2.out HB.out) | (with_reducible refine Kd.C_alloc ?_ _) | (with_reducible refine Kd.C_drewN ?_ _) | (with_reducible refine Kd.C_drew ?_))); (case side2 => exact HC2.out); (case side3 => repeat (first | exact (Kd.C_below HR3.out HB.out) | (with_reducible refine Kd.C_alloc ?_ _) | (with_reducible refine Kd.C_drewN ?_ _) | (with_reducible refine Kd.C_drew ?_))); (case side4 => exact HC3.out); rintro e w9 ⟨v171, rfl, ho0, hb⟩; refine ⟨_, rfl, ?_⟩; have n0_ := Aside0.mk (Kd.R_lower ho0 (below_size (by exact HB.out))); have n1_ := Aside0.mk (blk_below (g := gb167) (o := .cells #[.slice A0_0 l0_0.length c0_0, .slice A0_1 l0_1.length c0_1, .slice A0_2 l0_2.length c0_2] 33 (0, 0)) (by exact BK167.out) hb); have n2_ := Aside0.mk (blk_below (g := gb168) (o := .cells #[.int .i64 a1_0, .int .i64 a1_1] 35 (0, 0)) (by exact BK168.out) hb); have n3_ := Aside0.mk (below_step (by exact HB.out) hb); clear BK167; clear BK168; clear HB; have HO172 := n0_; have BK167 := n1_; have BK168 := n2_; have HB := n3_; clear n0_ n1_ n2_ n3_; (try clear hb); (try clear hb2); (try clear hk); (try clear hi); (try clear ho0)))
 (try simp only [Act.put, qa_, qb_, qc_])
 go_cut [28] (fun v28 wc => ∃ (kq : Nat) (x28_5 : Bool), v28 = .bool x28_5 ∧ Aside0 (impl_Leaves.j0 kq l2 l3 x28_5 l0_0 l0_1 l0_2 a1_0 a1_1 = some r) ∧ Aside0 (kq ≤ k) ∧ Aside0 (wc.heap[gb167]? = some (.cells #[(.slice A0_0 l0_0.length c0_0), (.slice A0_1 l0_1.length c0_1), (.slice A0_2 l0_2.length c0_2)] 33 (0, 0))) ∧ Aside0 (wc.heap[gb168]? = some (.cells #[.int .i64 a1_0, .int .i64 a1_1] 35 (0, 0))) ∧ Aside0 (Below w.heap.size w wc))
 case first =>
  have H := HC6.out
  clear HC6
  by_cases c10 : t170 = (-1)
  ·rw [if_pos c10] at H
   have c10b0 : (t170 == (-1)) = true := beq_iff_eq.mpr c10
   have c10b1 : (t170 != (-1)) = false := bne_eq_false_iff_eq.mpr c10
   clear c10
   (first | rw [c10b0] | (simp only [i64_w, i32_w]; rw [c10b0]) | skip)
   replace H := Option.bind_eq_some_iff.mp H
   obtain ⟨t173, A110, H⟩ := H
   replace H : (impl_Leaves.j0 k l2 l3 (!t173) l0_0 l0_1 l0_2 a1_0 a1_1) = some r := H
   have A11 := Aside0.mk A110
   clear A110
   have H' := Aside0.mk H
   clear H
   have hnb12 := NB167_168.out
   have hnc12 := NB168_167.out
   have hcz13_0 : w9.cell? ⟨gb167, 0, none⟩ = some (.slice A0_0 l0_0.length c0_0) := (blk_cell BK167.out 0).trans rfl
   have hcz13_1 : w9.cell? ⟨gb167, 1, none⟩ = some (.slice A0_1 l0_1.length c0_1) := (blk_cell BK167.out 1).trans rfl
   have hcz13_2 : w9.cell? ⟨gb167, 2, none⟩ = some (.slice A0_2 l0_2.length c0_2) := (blk_cell BK167.out 2).trans rfl
   have hfz13_0 := blk_frozen BK167.out 0
   have hfz13_1 := blk_frozen BK167.out 1
   have hfz13_2 := blk_frozen BK167.out 2
   have hcz14_0 : w9.cell? ⟨gb168, 0, none⟩ = some (.int .i64 a1_0) := (blk_cell BK168.out 0).trans rfl
   have hcz14_1 : w9.cell? ⟨gb168, 1, none⟩ = some (.int .i64 a1_1) := (blk_cell BK168.out 1).trans rfl
   have hfz14_0 := blk_frozen BK168.out 0
   have hfz14_1 := blk_frozen BK168.out 1
   go_wp2_with (first | (go_at_call 38; (with_reducible refine (impl_ladenOk.calls k _ _ l0_0 _ _ l0_1 _ _ l0_2 a1_0 a1_1 _ _ l2 t173 _ ?side1 ?side2 ?side3 ?side4 ?side5 ?side6 ?side7 ?side8 A11.out).mono ?_); (case side1 => repeat (first | exact (Kd.C_below HR0_0.out HB.out) | (with_reducible refine Kd.C_alloc ?_ _) | (with_reducible refine Kd.C_drewN ?_ _) | (with_reducible refine Kd.C_drew ?_))); (case side2 => exact HC0_0.out); (case side3 => repeat (first | exact (Kd.C_below HR0_1.out HB.out) | (with_reducible refine Kd.C_alloc ?_ _) | (with_reducible refine Kd.C_drewN ?_ _) | (with_reducible refine Kd.C_drew ?_))); (case side4 => exact HC0_1.out); (case side5 => repeat (first | exact (Kd.C_below HR0_2.out HB.out) | (with_reducible refine Kd.C_alloc ?_ _) | (with_reducible refine Kd.C_drewN ?_ _) | (with_reducible refine Kd.C_drew ?_))); (case side6 => exact HC0_2.out); (case side7 => repeat (first | exact (Kd.C_below HR2.out HB.out) | (with_reducible refine Kd.C_alloc ?_ _) | (with_reducible refine Kd.C_drewN ?_ _) | (with_reducible refine Kd.C_drew ?_))); (case side8 => exact HC2.out); rintro e w15 ⟨rfl, hb⟩; have n0_ := Aside0.mk (Kd.R_below (by exact HO172.out) hb); have n1_ := Aside0.mk (blk_below (g := gb167) (o := .cells #[.slice A0_0 l0_0.length c0_0, .slice A0_1 l0_1.length c0_1, .slice A0_2 l0_2.length c0_2] 33 (0, 0)) (by exact BK167.out) hb); have n2_ := Aside0.mk (blk_below (g := gb168) (o := .cells #[.int .i64 a1_0, .int .i64 a1_1] 35 (0, 0)) (by exact BK168.out) hb); have n3_ := Aside0.mk (below_step (by exact HB.out) hb); clear HO172; clear BK167; clear BK168; clear HB; have HO172 := n0_; have BK167 := n1_; have BK168 := n2_; have HB := n3_; clear n0_ n1_ n2_ n3_; (try clear hb); (try clear hb2); (try clear hk); (try clear hi)))
   go_meet
   case rel => exact ⟨_, (!t173), (by first | rfl | (simp; done) | (simp [*]; done)), H', ⟨by first | omega | exact Nat.le_refl _⟩, ⟨by (with_reducible repeat (first | refine blk_drewN ?_ _ | refine blk_drew ?_ | refine blk_alloc ?_ _)); exact BK167.out⟩, ⟨by (with_reducible repeat (first | refine blk_drewN ?_ _ | refine blk_drew ?_ | refine blk_alloc ?_ _)); exact BK168.out⟩, ⟨by repeat (first | (with_reducible first | exact HB.out | apply below_alloc | apply pw_below_drewN | apply below_drew1) | exact HB.out)⟩⟩
  ·rw [if_neg c10] at H
   have c10b0 : (t170 == (-1)) = false := beq_eq_false_iff_ne.mpr c10
   have c10b1 : (t170 != (-1)) = true := bne_iff_ne.mpr c10
   (first | rw [c10b0] | (simp only [i64_w, i32_w]; rw [c10b0]) | skip)
   have H' := Aside0.mk H
   clear H
   go_wp2
   go_meet
   case rel => exact ⟨_, (true), (by first | rfl | (simp; done) | (simp [*]; done)), H', ⟨by first | omega | exact Nat.le_refl _⟩, ⟨by (with_reducible repeat (first | refine blk_drewN ?_ _ | refine blk_drew ?_ | refine blk_alloc ?_ _)); exact BK167.out⟩, ⟨by (with_reducible repeat (first | refine blk_drewN ?_ _ | refine blk_drew ?_ | refine blk_alloc ?_ _)); exact BK168.out⟩, ⟨by repeat (first | (with_reducible first | exact HB.out | apply below_alloc | apply pw_below_drewN | apply below_drew1) | exact HB.out)⟩⟩
 case rest =>
  clear HC6
  try clear c1
  try clear c2
  try clear p2
  try clear c3
  try clear c10
  try clear c10b0
  try clear c10b1
  try clear c12
  try clear c15
  try clear hcz13_0
  try clear hcz13_1
  try clear hcz13_2
  try clear hcz14_0
  try clear hcz14_1
  try clear hfz13_0
  try clear hfz13_1
  try clear hfz13_2
  try clear hfz14_0
  try clear hfz14_1
  obtain ⟨kq, x28_5, rfl, HA, HJ5, BK167, BK168, HB⟩ := hcut
  cases kq with
  | zero => exact absurd HA.out (by simp [impl_Leaves.j0])
  | succ kj5 =>
   have H := HA.out
   clear HA
   simp only [impl_Leaves.j0] at H
   by_cases c16 : x28_5 = true
   ·subst c16
    have H1 : (some (-2)) = some r := by rw [if_pos rfl] at H; exact H
    clear H
    have H := H1
    clear H1
    obtain rfl := Option.some.inj H
    go_wp2
    go_ret
    exact ⟨by first | rfl | (simp [errW_none, errW_some] <;> rfl) | (simp [*, errW_none, errW_some] <;> rfl), by repeat (first | (with_reducible first | exact HB.out | apply below_alloc | apply pw_below_drewN | apply below_drew1) | exact HB.out)⟩
   ·replace c16 := Bool.eq_false_iff.mpr c16
    subst c16
    have H1 : ((impl_laden.f kj5 a1_0 a1_1 l2).bind fun bt174 => ((impl_inside.f kj5 l0_0 l0_1 l0_2 bt174.1 bt174.2).bind fun t176 => (if t176 = true then ((impl_FuelTank_41.f l2).bind fun t177 => (impl_Leaves.l0 kj5 l3 t177 l3 (l3.length : Int) 0 l0_0 l0_1 l0_2 a1_0 a1_1)) else (some (-1))))) = some r := by rw [if_neg (show ¬ (false = true) by decide)] at H; exact H
    clear H
    have H := H1
    clear H1
    replace H := Option.bind_eq_some_iff.mp H
    obtain ⟨⟨t174, t175⟩, A170, H⟩ := H
    replace H : ((impl_inside.f kj5 l0_0 l0_1 l0_2 t174 t175).bind fun t176 => (if t176 = true then ((impl_FuelTank_41.f l2).bind fun t177 => (impl_Leaves.l0 kj5 l3 t177 l3 (l3.length : Int) 0 l0_0 l0_1 l0_2 a1_0 a1_1)) else (some (-1)))) = some r := H
    have A17 := Aside0.mk A170
    clear A170
    replace H := Option.bind_eq_some_iff.mp H
    obtain ⟨t176, A180, H⟩ := H
    replace H : (if t176 = true then ((impl_FuelTank_41.f l2).bind fun t177 => (impl_Leaves.l0 kj5 l3 t177 l3 (l3.length : Int) 0 l0_0 l0_1 l0_2 a1_0 a1_1)) else (some (-1))) = some r := H
    have A18 := Aside0.mk A180
    clear A180
    by_cases c19 : t176 = true
    ·subst c19
     have H1 : ((impl_FuelTank_41.f l2).bind fun t177 => (impl_Leaves.l0 kj5 l3 t177 l3 (l3.length : Int) 0 l0_0 l0_1 l0_2 a1_0 a1_1)) = some r := by rw [if_pos rfl] at H; exact H
     clear H
     have H := H1
     clear H1
     replace H := Option.bind_eq_some_iff.mp H
     obtain ⟨t177, A200, H⟩ := H
     replace H : (impl_Leaves.l0 kj5 l3 t177 l3 (l3.length : Int) 0 l0_0 l0_1 l0_2 a1_0 a1_1) = some r := H
     have A20 := Aside0.mk A200
     clear A200
     have H' := Aside0.mk H
     clear H
     try go_wp2
     have n0_ := Aside0.mk (blk_drew BK167.out)
     have n1_ := Aside0.mk (blk_drew BK168.out)
     have n2_ := Aside0.mk (below_drew1 HB.out)
     clear BK167
     clear BK168
     clear HB
     have BK167 := n0_
     have BK168 := n1_
     have HB := n2_
     clear n0_ n1_ n2_
     refine start_ (n := 6) (S := fun w' => w'.cell? ⟨gb167, 0, none⟩ = some (.slice A0_0 l0_0.length c0_0) ∧ w'.cell? ⟨gb167, 1, none⟩ = some (.slice A0_1 l0_1.length c0_1) ∧ w'.cell? ⟨gb167, 2, none⟩ = some (.slice A0_2 l0_2.length c0_2) ∧ w'.cell? ⟨gb168, 0, none⟩ = some (.int .i64 a1_0) ∧ w'.cell? ⟨gb168, 1, none⟩ = some (.int .i64 a1_1)) (ds := []) #[false, false, false, false, false, false] (by kernel_rfl) rfl rfl ⟨(blk_cell BK167.out 0).trans rfl, (blk_cell BK167.out 1).trans rfl, (blk_cell BK167.out 2).trans rfl, (blk_cell BK168.out 0).trans rfl, (blk_cell BK168.out 1).trans rfl⟩ (fun hHeld => ?_)
     generalize wc.drew = w21 at BK167 BK168 HB hHeld ⊢
     refine pure_ (i := 2) (N := some 31) (v := ?_) (a' := ?_) #[false, false, true, false, false, false] rfl rfl (by kernel_rfl) (fun _ _ _ h => h) (Or.inl ⟨by rfl, ?_⟩) ?_ ?_; rotate_left
     ·intro w'
      go_simp; with_reducible rfl
     rotate_left
     ·simp only [Act.put, qa_, qb_, qc_, i64_w, i32_w]
      rfl
     refine take_ (i := 0) (N := some 29) (v := ?_) (a' := ?_) #[true, false, true, false, false, false] rfl rfl (by kernel_rfl) (fun _ _ _ h => h) (Or.inl ⟨by rfl, ?_⟩) hHeld ?_ ?_; rotate_left
     ·rintro w' ⟨s0, s1, s2, s3, s4⟩; go_simp; with_reducible rfl
     rotate_left
     ·simp only [Act.put, qa_, qb_, qc_, i64_w, i32_w]
      rfl
     refine take_ (i := 1) (N := some 30) (v := ?_) (a' := ?_) #[true, true, true, false, false, false] rfl rfl (by kernel_rfl) (fun _ _ _ h => h) (Or.inl ⟨by rfl, ?_⟩) hHeld ?_ ?_; rotate_left
     ·rintro w' ⟨s0, s1, s2, s3, s4⟩; go_simp; with_reducible rfl
     rotate_left
     ·simp only [Act.put, qa_, qb_, qc_, i64_w, i32_w]
      rfl
     refine one_ (i := 3) (N := some 32) #[true, true, true, true, false, false] rfl rfl (by kernel_rfl) (by decide) (fun K hK => ?_)
     refine goes_ Try.func40 (by kernel_rfl) rfl #[.agg #[.int .i64 a1_0, .int .i64 a1_1], .slice A2 l2.length c2] (by rfl) rfl rfl (by (try simp only [List.map_toArray, List.map_cons, List.map_nil]); first | done | rfl | (simp only [List.length_drop, List.length_take]; rfl)) ?_
     with_reducible refine (impl_laden.calls kj5 a1_0 a1_1 _ _ l2 t174 t175 _ ?side1 ?side2 A17.out).mono ?_
     (case side1 => repeat (first | exact (Kd.C_below HR2.out HB.out) | (with_reducible refine Kd.C_alloc ?_ _) | (with_reducible refine Kd.C_drewN ?_ _) | (with_reducible refine Kd.C_drew ?_)))
     (case side2 => exact HC2.out)
     rintro e w22 ⟨rfl, hb⟩
     refine ⟨_, rfl, ?_⟩
     have n0_ := Aside0.mk (blk_below (g := gb167) (o := .cells #[.slice A0_0 l0_0.length c0_0, .slice A0_1 l0_1.length c0_1, .slice A0_2 l0_2.length c0_2] 33 (0, 0)) (by (with_reducible repeat (first | refine blk_drewN ?_ _ | refine blk_drew ?_ | refine blk_alloc ?_ _)); exact BK167.out) hb)
     have n1_ := Aside0.mk (blk_below (g := gb168) (o := .cells #[.int .i64 a1_0, .int .i64 a1_1] 35 (0, 0)) (by (with_reducible repeat (first | refine blk_drewN ?_ _ | refine blk_drew ?_ | refine blk_alloc ?_ _)); exact BK168.out) hb)
     have n2_ := Aside0.mk (below_step (by repeat (first | (with_reducible first | exact HB.out | apply below_alloc | apply pw_below_drewN | apply below_drew1) | exact HB.out)) hb)
     clear BK167
     clear BK168
     clear HB
     have BK167 := n0_
     have BK168 := n1_
     have HB := n2_
     clear n0_ n1_ n2_
     (try clear hb)
     (try clear hb2)
     (try clear hk)
     (try clear hi)
     refine hK.out _ _ ⟨(blk_cell BK167.out 0).trans rfl, (blk_cell BK167.out 1).trans rfl, (blk_cell BK167.out 2).trans rfl, (blk_cell BK168.out 0).trans rfl, (blk_cell BK168.out 1).trans rfl⟩ (fun hHeld => ?_)
     clear hK K
     refine norm_ (a' := ?_) ?_ ?_; rotate_left
     ·show Act.put _ (some 32) _ = _
      simp only [Act.put, qa_, qb_, qc_, i64_w, i32_w]
      rfl
     refine one_ (i := 4) (N := some 33) #[true, true, true, true, true, false] rfl rfl (by kernel_rfl) (by decide) (fun K hK => ?_)
     refine goes_ Try.func39 (by kernel_rfl) rfl #[.agg #[.slice A0_0 l0_0.length c0_0, .slice A0_1 l0_1.length c0_1, .slice A0_2 l0_2.length c0_2], .agg #[.int .i64 t174, .int .i64 t175]] (by rfl) rfl rfl (by (try simp only [List.map_toArray, List.map_cons, List.map_nil]); first | done | rfl | (simp only [List.length_drop, List.length_take]; rfl)) ?_
     with_reducible refine (impl_inside.calls kj5 _ _ l0_0 _ _ l0_1 _ _ l0_2 t174 t175 true _ ?side1 ?side2 ?side3 ?side4 ?side5 ?side6 A18.out).mono ?_
     (case side1 => repeat (first | exact (Kd.C_below HR0_0.out HB.out) | (with_reducible refine Kd.C_alloc ?_ _) | (with_reducible refine Kd.C_drewN ?_ _) | (with_reducible refine Kd.C_drew ?_)))
     (case side2 => exact HC0_0.out)
     (case side3 => repeat (first | exact (Kd.C_below HR0_1.out HB.out) | (with_reducible refine Kd.C_alloc ?_ _) | (with_reducible refine Kd.C_drewN ?_ _) | (with_reducible refine Kd.C_drew ?_)))
     (case side4 => exact HC0_1.out)
     (case side5 => repeat (first | exact (Kd.C_below HR0_2.out HB.out) | (with_reducible refine Kd.C_alloc ?_ _) | (with_reducible refine Kd.C_drewN ?_ _) | (with_reducible refine Kd.C_drew ?_)))
     (case side6 => exact HC0_2.out)
     rintro e w23 ⟨rfl, hb⟩
     refine ⟨_, rfl, ?_⟩
     have n0_ := Aside0.mk (blk_below (g := gb167) (o := .cells #[.slice A0_0 l0_0.length c0_0, .slice A0_1 l0_1.length c0_1, .slice A0_2 l0_2.length c0_2] 33 (0, 0)) (by (with_reducible repeat (first | refine blk_drewN ?_ _ | refine blk_drew ?_ | refine blk_alloc ?_ _)); exact BK167.out) hb)
     have n1_ := Aside0.mk (blk_below (g := gb168) (o := .cells #[.int .i64 a1_0, .int .i64 a1_1] 35 (0, 0)) (by (with_reducible repeat (first | refine blk_drewN ?_ _ | refine blk_drew ?_ | refine blk_alloc ?_ _)); exact BK168.out) hb)
     have n2_ := Aside0.mk (below_step (by repeat (first | (with_reducible first | exact HB.out | apply below_alloc | apply pw_below_drewN | apply below_drew1) | exact HB.out)) hb)
     clear BK167
     clear BK168
     clear HB
     have BK167 := n0_
     have BK168 := n1_
     have HB := n2_
     clear n0_ n1_ n2_
     (try clear hb)
     (try clear hb2)
     (try clear hk)
     (try clear hi)
     refine hK.out _ _ ⟨(blk_cell BK167.out 0).trans rfl, (blk_cell BK167.out 1).trans rfl, (blk_cell BK167.out 2).trans rfl, (blk_cell BK168.out 0).trans rfl, (blk_cell BK168.out 1).trans rfl⟩ (fun hHeld => ?_)
     clear hK K
     refine norm_ (a' := ?_) ?_ ?_; rotate_left
     ·show Act.put _ (some 33) _ = _
      simp only [Act.put, qa_, qb_, qc_, i64_w, i32_w]
      rfl
     refine pure_ (i := 5) (N := some 34) (v := ?_) (a' := ?_) #[true, true, true, true, true, true] rfl rfl (by kernel_rfl) (fun _ _ _ h => h) (Or.inl ⟨by rfl, ?_⟩) ?_ ?_; rotate_left
     ·intro w'
      go_simp; with_reducible rfl
     rotate_left
     ·simp only [Act.put, qa_, qb_, qc_, i64_w, i32_w]
      rfl
     refine done_ (by kernel_rfl) ?_
     try go_wp2_with (first | ((with_reducible refine gate_callee (f := 41) rfl ?_); refine goesL_ (some 36) rfl rfl Try.func41 (by kernel_rfl) rfl #[.slice A2 l2.length c2] rfl (by (try simp only [List.map_toArray, List.map_cons, List.map_nil]); first | done | rfl | (simp only [List.length_drop, List.length_take]; rfl)) ?_; (with_reducible refine (impl_FuelTank_41.calls _ _ l2 t177 _ ?side1 ?side2 A20.out).mono ?_); (case side1 => repeat (first | exact (Kd.C_below HR2.out HB.out) | (with_reducible refine Kd.C_alloc ?_ _) | (with_reducible refine Kd.C_drewN ?_ _) | (with_reducible refine Kd.C_drew ?_))); (case side2 => exact HC2.out); rintro e w24 ⟨v178, rfl, ho0, hb⟩; refine ⟨_, rfl, ?_⟩; have n0_ := Aside0.mk (Kd.R_lower ho0 (below_size (by exact HB.out))); have n1_ := Aside0.mk (blk_below (g := gb167) (o := .cells #[.slice A0_0 l0_0.length c0_0, .slice A0_1 l0_1.length c0_1, .slice A0_2 l0_2.length c0_2] 33 (0, 0)) (by exact BK167.out) hb); have n2_ := Aside0.mk (blk_below (g := gb168) (o := .cells #[.int .i64 a1_0, .int .i64 a1_1] 35 (0, 0)) (by exact BK168.out) hb); have n3_ := Aside0.mk (below_step (by exact HB.out) hb); clear BK167; clear BK168; clear HB; have HO179 := n0_; have BK167 := n1_; have BK168 := n2_; have HB := n3_; clear n0_ n1_ n2_ n3_; (try clear hb); (try clear hb2); (try clear hk); (try clear hi); (try clear ho0)))
     go_loopg [39] kj5 (fun kq v39 w' => ∃ (x11_2 : List (S60)) (x39_2 : Int), v39 = .int .i64 x39_2 ∧ Aside0 (impl_Leaves.l0 kq l3 x11_2 l3 (l3.length : Int) x39_2 l0_0 l0_1 l0_2 a1_0 a1_1 = some r) ∧ Aside0 (kq ≤ kj5) ∧ Aside0 (Kd.R k60 60 w' w.heap.size (fun _ => True) v178 x11_2) ∧ Aside0 (w'.heap[gb167]? = some (.cells #[(.slice A0_0 l0_0.length c0_0), (.slice A0_1 l0_1.length c0_1), (.slice A0_2 l0_2.length c0_2)] 33 (0, 0))) ∧ Aside0 (w'.heap[gb168]? = some (.cells #[.int .i64 a1_0, .int .i64 a1_1] 35 (0, 0))) ∧ Aside0 (Below w.heap.size w w'))
     case atStart => exact ⟨(t177), (0), (by first | rfl | (simp; done) | (simp [*]; done)), H', ⟨Nat.le_refl _⟩, ⟨by (with_reducible repeat (first | apply Kd.R_alloc | apply Kd.R_drewN | apply Kd.R_drew)); exact HO179.out⟩, ⟨by (with_reducible repeat (first | refine blk_drewN ?_ _ | refine blk_drew ?_ | refine blk_alloc ?_ _)); exact BK167.out⟩, ⟨by (with_reducible repeat (first | refine blk_drewN ?_ _ | refine blk_drew ?_ | refine blk_alloc ?_ _)); exact BK168.out⟩, ⟨by repeat (first | (with_reducible first | exact HB.out | apply below_alloc | apply pw_below_drewN | apply below_drew1) | exact HB.out)⟩⟩
     case round =>
      clear H'
      try clear c1
      try clear c2
      try clear p2
      try clear c3
      try clear c4
      try clear c10
      try clear c10b0
      try clear c10b1
      try clear c12
      try clear c15
      try clear c16
      try clear c19
      try clear hcz13_0
      try clear hcz13_1
      try clear hcz13_2
      try clear hcz14_0
      try clear hcz14_1
      try clear hfz13_0
      try clear hfz13_1
      try clear hfz13_2
      try clear hfz14_0
      try clear hfz14_1
      try clear p2
      obtain ⟨x11_2, x39_2, rfl, HA, HK2, HO_11, BK167, BK168, HB⟩ := hrel
      cases gk with
      | zero => exact absurd HA.out (by simp [impl_Leaves.l0])
      | succ k2 =>
       have H := HA.out
       clear HA
       simp only [impl_Leaves.l0] at H
       by_cases c25 : x39_2 < (l3.length : Int)
       ·rw [if_pos c25] at H
        have c25b0 : decide (x39_2 < (l3.length : Int)) = true := decide_eq_true c25
        clear c25
        by_cases c26 : 0 ≤ x39_2
        ·rw [if_pos c26] at H
         have c26b0 : decide (0 ≤ x39_2) = true := decide_eq_true c26
         clear c26
         by_cases c27 : x39_2 < (l3.length : Int)
         ·rw [if_pos c27] at H
          have c27b0 : decide (x39_2 < (l3.length : Int)) = true := decide_eq_true c27
          clear c27
          by_cases c28 : 0 ≤ ((rd_T62 l3 x39_2).f0)
          ·rw [if_pos c28] at H
           have c28b0 : decide (0 ≤ ((rd_T62 l3 x39_2).f0)) = true := decide_eq_true c28
           clear c28
           by_cases c29 : ((rd_T62 l3 x39_2).f0) < (x11_2.length : Int)
           ·rw [if_pos c29] at H
            have c29b0 : decide (((rd_T62 l3 x39_2).f0) < (x11_2.length : Int)) = true := decide_eq_true c29
            clear c29
            obtain ⟨y183, hy183⟩ : ∃ y_ : List (S60), y_ = (x11_2.set (((rd_T62 l3 x39_2).f0) : Int).toNat (⟨wrap64 (((rd_T60 x11_2 ((rd_T62 l3 x39_2).f0)).f0) - ((rd_T62 l3 x39_2).f1)), (rd_T60 x11_2 ((rd_T62 l3 x39_2).f0)).f1⟩ : S60)) := ⟨_, rfl⟩
            replace H : ((impl_laden.f k2 a1_0 a1_1 y183).bind fun bt184 => ((impl_inside.f k2 l0_0 l0_1 l0_2 bt184.1 bt184.2).bind fun t186 => (if t186 = true then (impl_Leaves.l0 k2 l3 y183 l3 (l3.length : Int) (wrap64 (x39_2 + 1)) l0_0 l0_1 l0_2 a1_0 a1_1) else (some x39_2)))) = some r := by first | (rw [hy183]; with_reducible exact H) | (have H2_ := (Option.bind_some _ _).symm.trans H; rw [hy183]; with_reducible exact H2_) | (have H2_ := (Option.bind_some _ _).symm.trans H; with_reducible exact H2_) | with_reducible exact H | (rw [hy183]; exact H) | exact H
            have Ny183 := Aside0.mk hy183
            clear hy183
            replace H := Option.bind_eq_some_iff.mp H
            obtain ⟨⟨t184, t185⟩, A310, H⟩ := H
            replace H : ((impl_inside.f k2 l0_0 l0_1 l0_2 t184 t185).bind fun t186 => (if t186 = true then (impl_Leaves.l0 k2 l3 y183 l3 (l3.length : Int) (wrap64 (x39_2 + 1)) l0_0 l0_1 l0_2 a1_0 a1_1) else (some x39_2))) = some r := H
            have A31 := Aside0.mk A310
            clear A310
            replace H := Option.bind_eq_some_iff.mp H
            obtain ⟨t186, A320, H⟩ := H
            replace H : (if t186 = true then (impl_Leaves.l0 k2 l3 y183 l3 (l3.length : Int) (wrap64 (x39_2 + 1)) l0_0 l0_1 l0_2 a1_0 a1_1) else (some x39_2)) = some r := H
            have A32 := Aside0.mk A320
            clear A320
            by_cases c33 : t186 = true
            ·subst c33
             have H1 : (impl_Leaves.l0 k2 l3 y183 l3 (l3.length : Int) (wrap64 (x39_2 + 1)) l0_0 l0_1 l0_2 a1_0 a1_1) = some r := by rw [if_pos rfl] at H; exact H
             clear H
             have H := H1
             clear H1
             have H' := Aside0.mk H
             clear H
             have p180 : 0 ≤ (x39_2 : Int) := of_decide_eq_true (by first | (with_reducible assumption) | assumption)
             have q180 : x39_2 < (l3.length : Int) := of_decide_eq_true (by first | (with_reducible assumption) | assumption)
             obtain ⟨ad180, e180, hx180_0, hx180_1⟩ := at_T62 HR3.out x39_2 p180 q180
             cases e180
             replace hx180_0 := (HB.out.cell (World.block_lt_of_cell? w _ hx180_0)).trans hx180_0
             replace hx180_1 := (HB.out.cell (World.block_lt_of_cell? w _ hx180_1)).trans hx180_1
             replace p180 := eq_true p180
             replace q180 := eq_true q180
             try go_wp2_with (first | ((with_reducible refine gate_dst (N := 13) rfl ?_); refine box_event ?hg (N := 13) ?hd (cs := #[.int .i64 0, .int .i64 0]) (t := 62) ?hr ?_; (case hd => rfl); (case hg => rfl); (case hr => first | (go_simp; done) | (go_simp; rfl)); intro gb181 hg w34 hbox hb; have n0_ := Aside0.mk (Kd.R_below (by exact HO_11.out) hb); have n1_ := Aside0.mk (blk_below (g := gb167) (o := .cells #[.slice A0_0 l0_0.length c0_0, .slice A0_1 l0_1.length c0_1, .slice A0_2 l0_2.length c0_2] 33 (0, 0)) (by exact BK167.out) hb); have n2_ := Aside0.mk (blk_below (g := gb168) (o := .cells #[.int .i64 a1_0, .int .i64 a1_1] 35 (0, 0)) (by exact BK168.out) hb); have n3_ := Aside0.mk (below_step (by exact HB.out) hb); have n4_ := Aside0.mk (hbox); have n5_ := Aside0.mk ((by rw [hg]; exact (below_size (by exact HB.out)) : w.heap.size ≤ gb181)); have n6_ := Aside0.mk ((n5_.out)); have n7_ := Aside0.mk ((by rw [hg]; exact Nat.ne_of_lt (blk_lt (g := gb167) (o := .cells #[.slice A0_0 l0_0.length c0_0, .slice A0_1 l0_1.length c0_1, .slice A0_2 l0_2.length c0_2] 33 (0, 0)) (by exact BK167.out)) : gb167 ≠ gb181)); have n8_ := Aside0.mk ((n7_.out.symm)); have n9_ := Aside0.mk ((by rw [hg]; exact Nat.ne_of_lt (blk_lt (g := gb168) (o := .cells #[.int .i64 a1_0, .int .i64 a1_1] 35 (0, 0)) (by exact BK168.out)) : gb168 ≠ gb181)); have n10_ := Aside0.mk ((n9_.out.symm)); clear HO_11; clear BK167; clear BK168; clear HB; have HO_11 := n0_; have BK167 := n1_; have BK168 := n2_; have HB := n3_; have BK181 := n4_; have GW181 := n5_; have GE181 := n6_; have NB167_181 := n7_; have NB181_167 := n8_; have NB168_181 := n9_; have NB181_168 := n10_; clear n0_ n1_ n2_ n3_ n4_ n5_ n6_ n7_ n8_ n9_ n10_; clear hb hbox hg; have hnb35 := NB181_167.out; have hnc35 := NB167_181.out; have hnb36 := NB181_168.out; have hnc36 := NB168_181.out; have hcz37_0 : w34.cell? ⟨gb181, 0, none⟩ = some (.int .i64 0) := (blk_cell BK181.out 0).trans rfl; have hcz37_1 : w34.cell? ⟨gb181, 1, none⟩ = some (.int .i64 0) := (blk_cell BK181.out 1).trans rfl; have hfz37_0 := blk_frozen BK181.out 0; have hfz37_1 := blk_frozen BK181.out 1))
             have n0_ : Aside0 (Kd.R k60 60 ((w34.setCell ⟨gb181, 0, none⟩ (.int .i64 ((rd_T62 l3 x39_2).f0))).setCell ⟨gb181, 1, none⟩ (.int .i64 ((rd_T62 l3 x39_2).f1))) w.heap.size (fun _ => True) v178 x11_2) := ⟨by (with_reducible repeat (first | apply Kd.R_alloc | apply Kd.R_drewN | apply Kd.R_drew)); exact Kd.R_mono (Kd.R_far (p := ⟨gb181, 1, none⟩) (Kd.R_far (p := ⟨gb181, 0, none⟩) (Kd.R_types HO_11.out BK181.out (by decide)) (fun _ hk => hk.2) (.int .i64 ((rd_T62 l3 x39_2).f0))) (fun _ hk => hk.2) (.int .i64 ((rd_T62 l3 x39_2).f1))) (fun _ hk => trivial)⟩
             have n1_ : Aside0 (((w34.setCell ⟨gb181, 0, none⟩ (.int .i64 ((rd_T62 l3 x39_2).f0))).setCell ⟨gb181, 1, none⟩ (.int .i64 ((rd_T62 l3 x39_2).f1))).heap[gb167]? = some (.cells #[.slice A0_0 l0_0.length c0_0, .slice A0_1 l0_1.length c0_1, .slice A0_2 l0_2.length c0_2] 33 (0, 0))) := ⟨by (with_reducible repeat (first | refine blk_drewN ?_ _ | refine blk_drew ?_ | refine blk_alloc ?_ _)); refine blk_far ?_ NB167_181.out _; (with_reducible repeat (first | refine blk_drewN ?_ _ | refine blk_drew ?_ | refine blk_alloc ?_ _)); refine blk_far ?_ NB167_181.out _; (with_reducible repeat (first | refine blk_drewN ?_ _ | refine blk_drew ?_ | refine blk_alloc ?_ _)); exact BK167.out⟩
             have n2_ : Aside0 (((w34.setCell ⟨gb181, 0, none⟩ (.int .i64 ((rd_T62 l3 x39_2).f0))).setCell ⟨gb181, 1, none⟩ (.int .i64 ((rd_T62 l3 x39_2).f1))).heap[gb168]? = some (.cells #[.int .i64 a1_0, .int .i64 a1_1] 35 (0, 0))) := ⟨by (with_reducible repeat (first | refine blk_drewN ?_ _ | refine blk_drew ?_ | refine blk_alloc ?_ _)); refine blk_far ?_ NB168_181.out _; (with_reducible repeat (first | refine blk_drewN ?_ _ | refine blk_drew ?_ | refine blk_alloc ?_ _)); refine blk_far ?_ NB168_181.out _; (with_reducible repeat (first | refine blk_drewN ?_ _ | refine blk_drew ?_ | refine blk_alloc ?_ _)); exact BK168.out⟩
             have n3_ : Aside0 (((w34.setCell ⟨gb181, 0, none⟩ (.int .i64 ((rd_T62 l3 x39_2).f0))).setCell ⟨gb181, 1, none⟩ (.int .i64 ((rd_T62 l3 x39_2).f1))).heap[gb181]? = some (.cells #[.int .i64 ((rd_T62 l3 x39_2).f0), .int .i64 ((rd_T62 l3 x39_2).f1)] 62 (0, 0))) := ⟨by (with_reducible repeat (first | refine blk_drewN ?_ _ | refine blk_drew ?_ | refine blk_alloc ?_ _)); refine blk_put (cs := #[.int .i64 ((rd_T62 l3 x39_2).f0), .int .i64 0]) ?_ 1 _ rfl; (with_reducible repeat (first | refine blk_drewN ?_ _ | refine blk_drew ?_ | refine blk_alloc ?_ _)); refine blk_put (cs := #[.int .i64 0, .int .i64 0]) ?_ 0 _ rfl; (with_reducible repeat (first | refine blk_drewN ?_ _ | refine blk_drew ?_ | refine blk_alloc ?_ _)); exact BK181.out⟩
             have n4_ : Aside0 (Below w.heap.size w ((w34.setCell ⟨gb181, 0, none⟩ (.int .i64 ((rd_T62 l3 x39_2).f0))).setCell ⟨gb181, 1, none⟩ (.int .i64 ((rd_T62 l3 x39_2).f1)))) := ⟨by repeat (first | (with_reducible first | exact HB.out | apply below_alloc | apply pw_below_drewN | apply below_drew1 | refine below_set ?_ GE181.out) | exact HB.out)⟩
             (try clear HO_11)
             (try clear BK167)
             (try clear BK168)
             (try clear BK181)
             (try clear HB)
             generalize ((w34.setCell ⟨gb181, 0, none⟩ (.int .i64 ((rd_T62 l3 x39_2).f0))).setCell ⟨gb181, 1, none⟩ (.int .i64 ((rd_T62 l3 x39_2).f1))) = w38 at n0_ n1_ n2_ n3_ n4_ ⊢
             have HO_11 := n0_
             have BK167 := n1_
             have BK168 := n2_
             have BK181 := n3_
             have HB := n4_
             clear n0_ n1_ n2_ n3_ n4_
             have n0_ := Aside0.mk (Kd.R_drew HO_11.out)
             have n1_ := Aside0.mk (blk_drew BK167.out)
             have n2_ := Aside0.mk (blk_drew BK168.out)
             have n3_ := Aside0.mk (blk_drew BK181.out)
             have n4_ := Aside0.mk (below_drew1 HB.out)
             clear HO_11
             clear BK167
             clear BK168
             clear BK181
             clear HB
             have HO_11 := n0_
             have BK167 := n1_
             have BK168 := n2_
             have BK181 := n3_
             have HB := n4_
             clear n0_ n1_ n2_ n3_ n4_
             obtain ⟨Ao40, co40, eo40⟩ := Kd.R_slice HO_11.out
             (first | subst eo40 | (injection eo40 with f1_ f2_ f3_; have f4_ := f1_.symm; have f5_ := f3_.symm; clear f1_ f2_ f3_; subst f4_; subst f5_))
             have p182 : 0 ≤ (((rd_T62 l3 x39_2).f0) : Int) := of_decide_eq_true (by first | (with_reducible assumption) | assumption)
             have q182 : ((rd_T62 l3 x39_2).f0) < (x11_2.length : Int) := of_decide_eq_true (by first | (with_reducible assumption) | assumption)
             obtain ⟨ad182, e182, hx182_0, hx182_1⟩ := at_T60 (Kd.R_reads' HO_11.out).2.2 ((rd_T62 l3 x39_2).f0) p182 q182
             cases e182
             replace p182 := eq_true p182
             replace q182 := eq_true q182
             have p30 : 0 ≤ (((rd_T62 l3 x39_2).f0) : Int) := of_decide_eq_true (by first | (with_reducible assumption) | assumption)
             have q30 : (((rd_T62 l3 x39_2).f0) : Int) < ((x11_2.length : Int) : Int) := of_decide_eq_true (by first | (with_reducible assumption) | assumption)
             obtain ⟨go30, co30, eo30, gb30, gl30, cl30, HG30⟩ := Kd.R_form HO_11.out (by omega)
             (first | cases eo30 | (injection eo30 with ea_ en_ ec_; (first | subst ea_ | (injection ea_ with ea_; subst ea_)); subst ec_; clear en_))
             have GB30 := Aside0.mk gb30
             have GG30 := Aside0.mk HG30
             clear gb30 gl30 HG30
             (first | simp only [add_plain] at hx182_0 | skip)
             (first | simp only [add_plain] at hx182_1 | skip)
             obtain ⟨ce30, hcl30, hM30, hcc30, hfr30⟩ := Kd.R_elem HO_11.out z60 (((rd_T62 l3 x39_2).f0) : Int) p30 q30
             obtain rfl := k60_openM hM30
             have hx30_0 : World.cell? _ ⟨go30, (((rd_T62 l3 x39_2).f0) : Int).toNat * 2, none⟩ = some (.int .i64 ((rd_T60 x11_2 ((rd_T62 l3 x39_2).f0)).f0)) := hcc30 0 _ rfl
             have hx30_1 : World.cell? _ ⟨go30, (((rd_T62 l3 x39_2).f0) : Int).toNat * 2 + 1, none⟩ = some (.int .i64 ((rd_T60 x11_2 ((rd_T62 l3 x39_2).f0)).f1)) := hcc30 1 _ rfl
             have hf30_0 : World.frozen? _ ⟨go30, (((rd_T62 l3 x39_2).f0) : Int).toNat * 2, none⟩ = false := hfr30 0
             have hf30_1 : World.frozen? _ ⟨go30, (((rd_T62 l3 x39_2).f0) : Int).toNat * 2 + 1, none⟩ = false := hfr30 1
             clear hcl30 hcc30 hfr30; (try clear hM30)
             replace p30 := eq_true p30
             replace q30 := eq_true q30
             obtain ⟨ce41, hcl41, hM41, hcc41, hfr41⟩ := Kd.R_elem HO_11.out z60 (((rd_T62 l3 x39_2).f0) : Int) (of_decide_eq_true (by first | (with_reducible assumption) | assumption)) (by have h_ : (((rd_T62 l3 x39_2).f0) : Int) < ((x11_2.length : Int) : Int) := of_decide_eq_true (by first | (with_reducible assumption) | assumption); first | exact h_ | (have e_ := (Kd.R_reads' HO_11.out).1; omega) | simpa using h_)
             obtain rfl := k60_openM hM41
             have HP41 := (Kd.R_seg HO_11.out (((rd_T62 l3 x39_2).f0) : Int) (of_decide_eq_true (by first | (with_reducible assumption) | assumption)) (by have h_ : (((rd_T62 l3 x39_2).f0) : Int) < ((x11_2.length : Int) : Int) := of_decide_eq_true (by first | (with_reducible assumption) | assumption); first | exact h_ | (have e_ := (Kd.R_reads' HO_11.out).1; omega) | simpa using h_) (seg := [.int .i64 (wrap64 (((rd_T60 x11_2 ((rd_T62 l3 x39_2).f0)).f0) - ((rd_T62 l3 x39_2).f1)))]) (j := 0) hcl41 hcc41 (show 1 ≤ 2 from by decide) (x' := (⟨wrap64 (((rd_T60 x11_2 ((rd_T62 l3 x39_2).f0)).f0) - ((rd_T62 l3 x39_2).f1)), (rd_T60 x11_2 ((rd_T62 l3 x39_2).f0)).f1⟩ : S60)) (k60_mkM _ _ _ (⟨wrap64 (((rd_T60 x11_2 ((rd_T62 l3 x39_2).f0)).f0) - ((rd_T62 l3 x39_2).f1)), (rd_T60 x11_2 ((rd_T62 l3 x39_2).f0)).f1⟩ : S60) ) (fun _ hk => hk)).1
             rw [← Ny183.out] at HP41
             have HQ41 := Aside0.mk HP41
             clear hcl41 hcc41 hfr41 HP41; (try clear hM41)
             refine start_ (n := 12) (S := fun w' => w'.cell? ⟨gb181, 0, none⟩ = some (.int .i64 ((rd_T62 l3 x39_2).f0)) ∧ w'.cell? ⟨gb181, 1, none⟩ = some (.int .i64 ((rd_T62 l3 x39_2).f1)) ∧ w'.cell? ⟨go30, ((((rd_T62 l3 x39_2).f0)).toNat * 2), none⟩ = some (.int .i64 ((rd_T60 x11_2 ((rd_T62 l3 x39_2).f0)).f0)) ∧ w'.cell? ⟨go30, ((((rd_T62 l3 x39_2).f0)).toNat * 2) + 1, none⟩ = some (.int .i64 ((rd_T60 x11_2 ((rd_T62 l3 x39_2).f0)).f1))) (ds := [11]) #[false, false, false, false, false, false, false, false, false, false, false, false] (by kernel_rfl) rfl rfl ⟨(blk_cell BK181.out 0).trans rfl, (blk_cell BK181.out 1).trans rfl, hx182_0, hx182_1⟩ (fun hHeld => ?_); refine with_tabW impl_Leaves.tab10 impl_Leaves.bits10 (fun HT_ HW_ => ?_)
             generalize w38.drew = w39 at HO_11 BK167 BK168 BK181 HB GG30 HQ41 hf30_0 hf30_1 hx182_0 hx182_1 hx30_0 hx30_1 hHeld ⊢
             refine pure_ (i := 0) (N := some 44) (v := ?_) (a' := ?_) #[true, false, false, false, false, false, false, false, false, false, false, false] rfl rfl (any_of HT_.out (by kernel_rfl)) (fun _ _ _ h => h) (Or.inl ⟨by rfl, ?_⟩) ?_ ?_; rotate_left
             ·intro w'
              go_simp; with_reducible rfl
             rotate_left
             ·simp only [Act.put, qa_, qb_, qc_, i64_w, i32_w]
              rfl
             refine pure_ (i := 1) (N := some 45) (v := ?_) (a' := ?_) #[true, true, false, false, false, false, false, false, false, false, false, false] rfl rfl (any_of HT_.out (by kernel_rfl)) (fun _ _ _ h => h) (Or.inl ⟨by rfl, ?_⟩) ?_ ?_; rotate_left
             ·intro w'
              go_simp; with_reducible rfl
             rotate_left
             ·simp only [Act.put, qa_, qb_, qc_, i64_w, i32_w]
              rfl
             refine pure_ (i := 6) (N := some 50) (v := ?_) (a' := ?_) #[true, true, false, false, false, false, true, false, false, false, false, false] rfl rfl (any_of HT_.out (by kernel_rfl)) (fun _ _ _ h => h) (Or.inl ⟨by rfl, ?_⟩) ?_ ?_; rotate_left
             ·intro w'
              go_simp; with_reducible rfl
             rotate_left
             ·simp only [Act.put, qa_, qb_, qc_, i64_w, i32_w]
              rfl
             refine take_ (i := 2) (N := some 46) (v := ?_) (a' := ?_) #[true, true, true, false, false, false, true, false, false, false, false, false] rfl rfl (take_ofW HT_.out HW_.out (by kernel_rfl)) (fun _ _ _ h => h) (Or.inl ⟨by rfl, ?_⟩) hHeld ?_ ?_; rotate_left
             ·rintro w' ⟨s0, s1, s2, s3⟩; go_simp; with_reducible rfl
             rotate_left
             ·simp only [Act.put, qa_, qb_, qc_, i64_w, i32_w]
              rfl
             refine pure_ (i := 3) (N := some 47) (v := ?_) (a' := ?_) #[true, true, true, true, false, false, true, false, false, false, false, false] rfl rfl (any_of HT_.out (by kernel_rfl)) (fun _ _ _ h => h) (Or.inl ⟨by rfl, ?_⟩) ?_ ?_; rotate_left
             ·intro w'
              go_simp; with_reducible rfl
             rotate_left
             ·simp only [Act.put, qa_, qb_, qc_, i64_w, i32_w]
              rfl
             refine pure_ (i := 4) (N := some 48) (v := ?_) (a' := ?_) #[true, true, true, true, true, false, true, false, false, false, false, false] rfl rfl (any_of HT_.out (by kernel_rfl)) (fun _ _ _ h => h) (Or.inl ⟨by rfl, ?_⟩) ?_ ?_; rotate_left
             ·intro w'
              go_simp; with_reducible rfl
             rotate_left
             ·simp only [Act.put, qa_, qb_, qc_, i64_w, i32_w]
              rfl
             refine take_ (i := 5) (N := some 49) (v := ?_) (a' := ?_) #[true, true, true, true, true, true, true, false, false, false, false, false] rfl rfl (take_ofW HT_.out HW_.out (by kernel_rfl)) (fun _ _ _ h => h) (Or.inl ⟨by rfl, ?_⟩) hHeld ?_ ?_; rotate_left
             ·rintro w' ⟨s0, s1, s2, s3⟩; go_simp; with_reducible rfl
             rotate_left
             ·simp only [Act.put, qa_, qb_, qc_, i64_w, i32_w]
              rfl
             refine take_ (i := 7) (N := some 51) (v := ?_) (a' := ?_) #[true, true, true, true, true, true, true, true, false, false, false, false] rfl rfl (take_ofW HT_.out HW_.out (by kernel_rfl)) (fun _ _ _ h => h) (Or.inl ⟨by rfl, ?_⟩) hHeld ?_ ?_; rotate_left
             ·rintro w' ⟨s0, s1, s2, s3⟩; go_simp; with_reducible rfl
             rotate_left
             ·simp only [Act.put, qa_, qb_, qc_, i64_w, i32_w]
              rfl
             refine pure_ (i := 8) (N := some 52) (v := ?_) (a' := ?_) #[true, true, true, true, true, true, true, true, true, false, false, false] rfl rfl (any_of HT_.out (by kernel_rfl)) (fun _ _ _ h => h) (Or.inl ⟨by rfl, ?_⟩) ?_ ?_; rotate_left
             ·intro w'
              go_simp; with_reducible rfl
             rotate_left
             ·simp only [Act.put, qa_, qb_, qc_, i64_w, i32_w]
              rfl
             refine pure_ (i := 9) (N := some 53) (v := ?_) (a' := ?_) #[true, true, true, true, true, true, true, true, true, true, false, false] rfl rfl (any_of HT_.out (by kernel_rfl)) (fun _ _ _ h => h) (Or.inl ⟨by rfl, ?_⟩) ?_ ?_; rotate_left
             ·intro w'
              go_simp; with_reducible rfl
             rotate_left
             ·simp only [Act.put, qa_, qb_, qc_, i64_w, i32_w]
              rfl
             refine pure_ (i := 10) (N := some 54) (v := ?_) (a' := ?_) #[true, true, true, true, true, true, true, true, true, true, true, false] rfl rfl (any_of HT_.out (by kernel_rfl)) (fun _ _ _ h => h) (Or.inl ⟨by rfl, ?_⟩) ?_ ?_; rotate_left
             ·intro w'
              go_simp; with_reducible rfl
             rotate_left
             ·simp only [Act.put, qa_, qb_, qc_, i64_w, i32_w]
              rfl
             refine last_ (i := 11) (N := none) #[true, true, true, true, true, true, true, true, true, true, true, true] rfl rfl (one_of HT_.out (by kernel_rfl)) (by decide) (fun K hK => ?_)
             refine skip_ (w1 := ?_) (by rfl) rfl ?_ ?_; rotate_left
             ·go_simp
              rfl
             refine hK.out _ _ ?_
             clear hK K
             refine done_ (done_of HT_.out (by kernel_rfl)) ?_
             try go_wp2
             have n0_ : Aside0 (Kd.R k60 60 (w39.setCell ⟨go30, (((rd_T62 l3 x39_2).f0) : Int).toNat * 2, none⟩ (.int .i64 (wrap64 (((rd_T60 x11_2 ((rd_T62 l3 x39_2).f0)).f0) - ((rd_T62 l3 x39_2).f1))))) w.heap.size (fun _ => True) (.slice (some ⟨go30, 0, none⟩) x11_2.length co40) y183) := ⟨by (with_reducible repeat (first | apply Kd.R_alloc | apply Kd.R_drewN | apply Kd.R_drew)); exact HQ41.out⟩
             have n1_ : Aside0 ((w39.setCell ⟨go30, (((rd_T62 l3 x39_2).f0) : Int).toNat * 2, none⟩ (.int .i64 (wrap64 (((rd_T60 x11_2 ((rd_T62 l3 x39_2).f0)).f0) - ((rd_T62 l3 x39_2).f1))))).heap[gb167]? = some (.cells #[.slice A0_0 l0_0.length c0_0, .slice A0_1 l0_1.length c0_1, .slice A0_2 l0_2.length c0_2] 33 (0, 0))) := ⟨by (with_reducible repeat (first | refine blk_drewN ?_ _ | refine blk_drew ?_ | refine blk_alloc ?_ _)); refine blk_far ?_ (by have h_ := Kd.R_ne HO_11.out BK167.out (by decide); intro e_; exact h_ (by rw [e_]; rfl)) _; (with_reducible repeat (first | refine blk_drewN ?_ _ | refine blk_drew ?_ | refine blk_alloc ?_ _)); exact BK167.out⟩
             have n2_ : Aside0 ((w39.setCell ⟨go30, (((rd_T62 l3 x39_2).f0) : Int).toNat * 2, none⟩ (.int .i64 (wrap64 (((rd_T60 x11_2 ((rd_T62 l3 x39_2).f0)).f0) - ((rd_T62 l3 x39_2).f1))))).heap[gb168]? = some (.cells #[.int .i64 a1_0, .int .i64 a1_1] 35 (0, 0))) := ⟨by (with_reducible repeat (first | refine blk_drewN ?_ _ | refine blk_drew ?_ | refine blk_alloc ?_ _)); refine blk_far ?_ (by have h_ := Kd.R_ne HO_11.out BK168.out (by decide); intro e_; exact h_ (by rw [e_]; rfl)) _; (with_reducible repeat (first | refine blk_drewN ?_ _ | refine blk_drew ?_ | refine blk_alloc ?_ _)); exact BK168.out⟩
             have n3_ : Aside0 ((w39.setCell ⟨go30, (((rd_T62 l3 x39_2).f0) : Int).toNat * 2, none⟩ (.int .i64 (wrap64 (((rd_T60 x11_2 ((rd_T62 l3 x39_2).f0)).f0) - ((rd_T62 l3 x39_2).f1))))).heap[gb181]? = some (.cells #[.int .i64 ((rd_T62 l3 x39_2).f0), .int .i64 ((rd_T62 l3 x39_2).f1)] 62 (0, 0))) := ⟨by (with_reducible repeat (first | refine blk_drewN ?_ _ | refine blk_drew ?_ | refine blk_alloc ?_ _)); refine blk_far ?_ (by have h_ := Kd.R_ne HO_11.out BK181.out (by decide); intro e_; exact h_ (by rw [e_]; rfl)) _; (with_reducible repeat (first | refine blk_drewN ?_ _ | refine blk_drew ?_ | refine blk_alloc ?_ _)); exact BK181.out⟩
             have n4_ : Aside0 (Below w.heap.size w (w39.setCell ⟨go30, (((rd_T62 l3 x39_2).f0) : Int).toNat * 2, none⟩ (.int .i64 (wrap64 (((rd_T60 x11_2 ((rd_T62 l3 x39_2).f0)).f0) - ((rd_T62 l3 x39_2).f1)))))) := ⟨by repeat (first | (with_reducible first | exact HB.out | apply below_alloc | apply pw_below_drewN | apply below_drew1 | refine below_set ?_ GB30.out) | exact HB.out)⟩
             (try clear HO_11)
             (try clear BK167)
             (try clear BK168)
             (try clear BK181)
             (try clear HB)
             generalize (w39.setCell ⟨go30, (((rd_T62 l3 x39_2).f0) : Int).toNat * 2, none⟩ (.int .i64 (wrap64 (((rd_T60 x11_2 ((rd_T62 l3 x39_2).f0)).f0) - ((rd_T62 l3 x39_2).f1))))) = w42 at n0_ n1_ n2_ n3_ n4_ ⊢
             have HO_11 := n0_
             have BK167 := n1_
             have BK168 := n2_
             have BK181 := n3_
             have HB := n4_
             clear n0_ n1_ n2_ n3_ n4_
             have n0_ := Aside0.mk (Kd.R_drew HO_11.out)
             have n1_ := Aside0.mk (blk_drew BK167.out)
             have n2_ := Aside0.mk (blk_drew BK168.out)
             have n3_ := Aside0.mk (blk_drew BK181.out)
             have n4_ := Aside0.mk (below_drew1 HB.out)
             clear HO_11
             clear BK167
             clear BK168
             clear BK181
             clear HB
             have HO_11 := n0_
             have BK167 := n1_
             have BK168 := n2_
             have BK181 := n3_
             have HB := n4_
             clear n0_ n1_ n2_ n3_ n4_
             refine start_ (n := 6) (S := fun w' => w'.cell? ⟨gb167, 0, none⟩ = some (.slice A0_0 l0_0.length c0_0) ∧ w'.cell? ⟨gb167, 1, none⟩ = some (.slice A0_1 l0_1.length c0_1) ∧ w'.cell? ⟨gb167, 2, none⟩ = some (.slice A0_2 l0_2.length c0_2) ∧ w'.cell? ⟨gb168, 0, none⟩ = some (.int .i64 a1_0) ∧ w'.cell? ⟨gb168, 1, none⟩ = some (.int .i64 a1_1)) (ds := []) #[false, false, false, false, false, false] (by kernel_rfl) rfl rfl ⟨(blk_cell BK167.out 0).trans rfl, (blk_cell BK167.out 1).trans rfl, (blk_cell BK167.out 2).trans rfl, (blk_cell BK168.out 0).trans rfl, (blk_cell BK168.out 1).trans rfl⟩ (fun hHeld => ?_)
             generalize w42.drew = w43 at HO_11 BK167 BK168 BK181 HB HQ41 hHeld ⊢
             refine pure_ (i := 2) (N := some 57) (v := ?_) (a' := ?_) #[false, false, true, false, false, false] rfl rfl (by kernel_rfl) (fun _ _ _ h => h) (Or.inl ⟨by rfl, ?_⟩) ?_ ?_; rotate_left
             ·intro w'
              go_simp; with_reducible rfl
             rotate_left
             ·simp only [Act.put, qa_, qb_, qc_, i64_w, i32_w]
              rfl
             refine take_ (i := 0) (N := some 55) (v := ?_) (a' := ?_) #[true, false, true, false, false, false] rfl rfl (by kernel_rfl) (fun _ _ _ h => h) (Or.inl ⟨by rfl, ?_⟩) hHeld ?_ ?_; rotate_left
             ·rintro w' ⟨s0, s1, s2, s3, s4⟩; go_simp; with_reducible rfl
             rotate_left
             ·simp only [Act.put, qa_, qb_, qc_, i64_w, i32_w]
              rfl
             refine take_ (i := 1) (N := some 56) (v := ?_) (a' := ?_) #[true, true, true, false, false, false] rfl rfl (by kernel_rfl) (fun _ _ _ h => h) (Or.inl ⟨by rfl, ?_⟩) hHeld ?_ ?_; rotate_left
             ·rintro w' ⟨s0, s1, s2, s3, s4⟩; go_simp; with_reducible rfl
             rotate_left
             ·simp only [Act.put, qa_, qb_, qc_, i64_w, i32_w]
              rfl
             refine one_ (i := 3) (N := some 58) #[true, true, true, true, false, false] rfl rfl (by kernel_rfl) (by decide) (fun K hK => ?_)
             refine goes_ Try.func40 (by kernel_rfl) rfl #[.agg #[.int .i64 a1_0, .int .i64 a1_1], .slice (some ⟨go30, 0, none⟩) y183.length co40] (by rfl) rfl rfl (by (try simp only [List.map_toArray, List.map_cons, List.map_nil]); first | done | (rw [show y183.length = x11_2.length from (Kd.R_reads' HO_11.out).1.symm] <;> rfl) | rfl | (simp only [List.length_drop, List.length_take]; rfl)) ?_
             with_reducible refine (impl_laden.calls k2 a1_0 a1_1 _ _ y183 t184 t185 _ ?side1 ?side2 A31.out).mono ?_
             (case side1 => repeat (first | exact (Kd.R_reads' HO_11.out).2.2 | (with_reducible refine Kd.C_alloc ?_ _) | (with_reducible refine Kd.C_drewN ?_ _) | (with_reducible refine Kd.C_drew ?_)))
             (case side2 => rw [show y183.length = x11_2.length from (Kd.R_reads' HO_11.out).1.symm]; exact (Kd.R_reads' HO_11.out).2.1)
             rintro e w44 ⟨rfl, hb⟩
             refine ⟨_, rfl, ?_⟩
             have n0_ := Aside0.mk (Kd.R_below (by (with_reducible repeat (first | apply Kd.R_alloc | apply Kd.R_drewN | apply Kd.R_drew)); exact HO_11.out) hb)
             have n1_ := Aside0.mk (blk_below (g := gb167) (o := .cells #[.slice A0_0 l0_0.length c0_0, .slice A0_1 l0_1.length c0_1, .slice A0_2 l0_2.length c0_2] 33 (0, 0)) (by (with_reducible repeat (first | refine blk_drewN ?_ _ | refine blk_drew ?_ | refine blk_alloc ?_ _)); exact BK167.out) hb)
             have n2_ := Aside0.mk (blk_below (g := gb168) (o := .cells #[.int .i64 a1_0, .int .i64 a1_1] 35 (0, 0)) (by (with_reducible repeat (first | refine blk_drewN ?_ _ | refine blk_drew ?_ | refine blk_alloc ?_ _)); exact BK168.out) hb)
             have n3_ := Aside0.mk (blk_below (g := gb181) (o := .cells #[.int .i64 ((rd_T62 l3 x39_2).f0), .int .i64 ((rd_T62 l3 x39_2).f1)] 62 (0, 0)) (by (with_reducible repeat (first | refine blk_drewN ?_ _ | refine blk_drew ?_ | refine blk_alloc ?_ _)); exact BK181.out) hb)
             have n4_ := Aside0.mk (below_step (by repeat (first | (with_reducible first | exact HB.out | apply below_alloc | apply pw_below_drewN | apply below_drew1) | exact HB.out)) hb)
             clear HO_11
             clear BK167
             clear BK168
             clear BK181
             clear HB
             have HO_11 := n0_
             have BK167 := n1_
             have BK168 := n2_
             have BK181 := n3_
             have HB := n4_
             clear n0_ n1_ n2_ n3_ n4_
             (try clear hb)
             (try clear hb2)
             (try clear hk)
             (try clear hi)
             refine hK.out _ _ ⟨(blk_cell BK167.out 0).trans rfl, (blk_cell BK167.out 1).trans rfl, (blk_cell BK167.out 2).trans rfl, (blk_cell BK168.out 0).trans rfl, (blk_cell BK168.out 1).trans rfl⟩ (fun hHeld => ?_)
             clear hK K
             refine norm_ (a' := ?_) ?_ ?_; rotate_left
             ·show Act.put _ (some 58) _ = _
              simp only [Act.put, qa_, qb_, qc_, i64_w, i32_w]
              rfl
             refine one_ (i := 4) (N := some 59) #[true, true, true, true, true, false] rfl rfl (by kernel_rfl) (by decide) (fun K hK => ?_)
             refine goes_ Try.func39 (by kernel_rfl) rfl #[.agg #[.slice A0_0 l0_0.length c0_0, .slice A0_1 l0_1.length c0_1, .slice A0_2 l0_2.length c0_2], .agg #[.int .i64 t184, .int .i64 t185]] (by rfl) rfl rfl (by (try simp only [List.map_toArray, List.map_cons, List.map_nil]); first | done | rfl | (simp only [List.length_drop, List.length_take]; rfl)) ?_
             with_reducible refine (impl_inside.calls k2 _ _ l0_0 _ _ l0_1 _ _ l0_2 t184 t185 true _ ?side1 ?side2 ?side3 ?side4 ?side5 ?side6 A32.out).mono ?_
             (case side1 => repeat (first | exact (Kd.C_below HR0_0.out HB.out) | (with_reducible refine Kd.C_alloc ?_ _) | (with_reducible refine Kd.C_drewN ?_ _) | (with_reducible refine Kd.C_drew ?_)))
             (case side2 => exact HC0_0.out)
             (case side3 => repeat (first | exact (Kd.C_below HR0_1.out HB.out) | (with_reducible refine Kd.C_alloc ?_ _) | (with_reducible refine Kd.C_drewN ?_ _) | (with_reducible refine Kd.C_drew ?_)))
             (case side4 => exact HC0_1.out)
             (case side5 => repeat (first | exact (Kd.C_below HR0_2.out HB.out) | (with_reducible refine Kd.C_alloc ?_ _) | (with_reducible refine Kd.C_drewN ?_ _) | (with_reducible refine Kd.C_drew ?_)))
             (case side6 => exact HC0_2.out)
             rintro e w45 ⟨rfl, hb⟩
             refine ⟨_, rfl, ?_⟩
             have n0_ := Aside0.mk (Kd.R_below (by (with_reducible repeat (first | apply Kd.R_alloc | apply Kd.R_drewN | apply Kd.R_drew)); exact HO_11.out) hb)
             have n1_ := Aside0.mk (blk_below (g := gb167) (o := .cells #[.slice A0_0 l0_0.length c0_0, .slice A0_1 l0_1.length c0_1, .slice A0_2 l0_2.length c0_2] 33 (0, 0)) (by (with_reducible repeat (first | refine blk_drewN ?_ _ | refine blk_drew ?_ | refine blk_alloc ?_ _)); exact BK167.out) hb)
             have n2_ := Aside0.mk (blk_below (g := gb168) (o := .cells #[.int .i64 a1_0, .int .i64 a1_1] 35 (0, 0)) (by (with_reducible repeat (first | refine blk_drewN ?_ _ | refine blk_drew ?_ | refine blk_alloc ?_ _)); exact BK168.out) hb)
             have n3_ := Aside0.mk (blk_below (g := gb181) (o := .cells #[.int .i64 ((rd_T62 l3 x39_2).f0), .int .i64 ((rd_T62 l3 x39_2).f1)] 62 (0, 0)) (by (with_reducible repeat (first | refine blk_drewN ?_ _ | refine blk_drew ?_ | refine blk_alloc ?_ _)); exact BK181.out) hb)
             have n4_ := Aside0.mk (below_step (by repeat (first | (with_reducible first | exact HB.out | apply below_alloc | apply pw_below_drewN | apply below_drew1) | exact HB.out)) hb)
             clear HO_11
             clear BK167
             clear BK168
             clear BK181
             clear HB
             have HO_11 := n0_
             have BK167 := n1_
             have BK168 := n2_
             have BK181 := n3_
             have HB := n4_
             clear n0_ n1_ n2_ n3_ n4_
             (try clear hb)
             (try clear hb2)
             (try clear hk)
             (try clear hi)
             refine hK.out _ _ ⟨(blk_cell BK167.out 0).trans rfl, (blk_cell BK167.out 1).trans rfl, (blk_cell BK167.out 2).trans rfl, (blk_cell BK168.out 0).trans rfl, (blk_cell BK168.out 1).trans rfl⟩ (fun hHeld => ?_)
             clear hK K
             refine norm_ (a' := ?_) ?_ ?_; rotate_left
             ·show Act.put _ (some 59) _ = _
              simp only [Act.put, qa_, qb_, qc_, i64_w, i32_w]
              rfl
             refine pure_ (i := 5) (N := some 60) (v := ?_) (a' := ?_) #[true, true, true, true, true, true] rfl rfl (by kernel_rfl) (fun _ _ _ h => h) (Or.inl ⟨by rfl, ?_⟩) ?_ ?_; rotate_left
             ·intro w'
              go_simp; with_reducible rfl
             rotate_left
             ·simp only [Act.put, qa_, qb_, qc_, i64_w, i32_w]
              rfl
             refine done_ (by kernel_rfl) ?_
             try go_wp2
             go_roundg k2
             case measure => have := HJ5.out; have := HK2.out; omega
             case rel => exact ⟨(y183), (wrap64 (x39_2 + 1)), (by first | rfl | (simp; done) | (simp [*]; done)), H', ⟨by have := HJ5.out; have := HK2.out; omega⟩, ⟨by (with_reducible repeat (first | apply Kd.R_alloc | apply Kd.R_drewN | apply Kd.R_drew)); exact HO_11.out⟩, ⟨by (with_reducible repeat (first | refine blk_drewN ?_ _ | refine blk_drew ?_ | refine blk_alloc ?_ _)); exact BK167.out⟩, ⟨by (with_reducible repeat (first | refine blk_drewN ?_ _ | refine blk_drew ?_ | refine blk_alloc ?_ _)); exact BK168.out⟩, ⟨by repeat (first | (with_reducible first | exact HB.out | apply below_alloc | apply pw_below_drewN | apply below_drew1) | exact HB.out)⟩⟩
            ·replace c33 := Bool.eq_false_iff.mpr c33
             subst c33
             have H1 : (some x39_2) = some r := by rw [if_neg (show ¬ (false = true) by decide)] at H; exact H
             clear H
             have H := H1
             clear H1
             obtain rfl := Option.some.inj H
             have p180 : 0 ≤ (x39_2 : Int) := of_decide_eq_true (by first | (with_reducible assumption) | assumption)
             have q180 : x39_2 < (l3.length : Int) := of_decide_eq_true (by first | (with_reducible assumption) | assumption)
             obtain ⟨ad180, e180, hx180_0, hx180_1⟩ := at_T62 HR3.out x39_2 p180 q180
             cases e180
             replace hx180_0 := (HB.out.cell (World.block_lt_of_cell? w _ hx180_0)).trans hx180_0
             replace hx180_1 := (HB.out.cell (World.block_lt_of_cell? w _ hx180_1)).trans hx180_1
             replace p180 := eq_true p180
             replace q180 := eq_true q180
             try go_wp2_with (first | ((with_reducible refine gate_dst (N := 13) rfl ?_); refine box_event ?hg (N := 13) ?hd (cs := #[.int .i64 0, .int .i64 0]) (t := 62) ?hr ?_; (case hd => rfl); (case hg => rfl); (case hr => first | (go_simp; done) | (go_simp; rfl)); intro gb181 hg w46 hbox hb; have n0_ := Aside0.mk (Kd.R_below (by exact HO_11.out) hb); have n1_ := Aside0.mk (blk_below (g := gb167) (o := .cells #[.slice A0_0 l0_0.length c0_0, .slice A0_1 l0_1.length c0_1, .slice A0_2 l0_2.length c0_2] 33 (0, 0)) (by exact BK167.out) hb); have n2_ := Aside0.mk (blk_below (g := gb168) (o := .cells #[.int .i64 a1_0, .int .i64 a1_1] 35 (0, 0)) (by exact BK168.out) hb); have n3_ := Aside0.mk (below_step (by exact HB.out) hb); have n4_ := Aside0.mk (hbox); have n5_ := Aside0.mk ((by rw [hg]; exact (below_size (by exact HB.out)) : w.heap.size ≤ gb181)); have n6_ := Aside0.mk ((n5_.out)); have n7_ := Aside0.mk ((by rw [hg]; exact Nat.ne_of_lt (blk_lt (g := gb167) (o := .cells #[.slice A0_0 l0_0.length c0_0, .slice A0_1 l0_1.length c0_1, .slice A0_2 l0_2.length c0_2] 33 (0, 0)) (by exact BK167.out)) : gb167 ≠ gb181)); have n8_ := Aside0.mk ((n7_.out.symm)); have n9_ := Aside0.mk ((by rw [hg]; exact Nat.ne_of_lt (blk_lt (g := gb168) (o := .cells #[.int .i64 a1_0, .int .i64 a1_1] 35 (0, 0)) (by exact BK168.out)) : gb168 ≠ gb181)); have n10_ := Aside0.mk ((n9_.out.symm)); clear HO_11; clear BK167; clear BK168; clear HB; have HO_11 := n0_; have BK167 := n1_; have BK168 := n2_; have HB := n3_; have BK181 := n4_; have GW181 := n5_; have GE181 := n6_; have NB167_181 := n7_; have NB181_167 := n8_; have NB168_181 := n9_; have NB181_168 := n10_; clear n0_ n1_ n2_ n3_ n4_ n5_ n6_ n7_ n8_ n9_ n10_; clear hb hbox hg; have hnb47 := NB181_167.out; have hnc47 := NB167_181.out; have hnb48 := NB181_168.out; have hnc48 := NB168_181.out; have hcz49_0 : w46.cell? ⟨gb181, 0, none⟩ = some (.int .i64 0) := (blk_cell BK181.out 0).trans rfl; have hcz49_1 : w46.cell? ⟨gb181, 1, none⟩ = some (.int .i64 0) := (blk_cell BK181.out 1).trans rfl; have hfz49_0 := blk_frozen BK181.out 0; have hfz49_1 := blk_frozen BK181.out 1))
             have n0_ : Aside0 (Kd.R k60 60 ((w46.setCell ⟨gb181, 0, none⟩ (.int .i64 ((rd_T62 l3 x39_2).f0))).setCell ⟨gb181, 1, none⟩ (.int .i64 ((rd_T62 l3 x39_2).f1))) w.heap.size (fun _ => True) v178 x11_2) := ⟨by (with_reducible repeat (first | apply Kd.R_alloc | apply Kd.R_drewN | apply Kd.R_drew)); exact Kd.R_mono (Kd.R_far (p := ⟨gb181, 1, none⟩) (Kd.R_far (p := ⟨gb181, 0, none⟩) (Kd.R_types HO_11.out BK181.out (by decide)) (fun _ hk => hk.2) (.int .i64 ((rd_T62 l3 x39_2).f0))) (fun _ hk => hk.2) (.int .i64 ((rd_T62 l3 x39_2).f1))) (fun _ hk => trivial)⟩
             have n1_ : Aside0 (((w46.setCell ⟨gb181, 0, none⟩ (.int .i64 ((rd_T62 l3 x39_2).f0))).setCell ⟨gb181, 1, none⟩ (.int .i64 ((rd_T62 l3 x39_2).f1))).heap[gb167]? = some (.cells #[.slice A0_0 l0_0.length c0_0, .slice A0_1 l0_1.length c0_1, .slice A0_2 l0_2.length c0_2] 33 (0, 0))) := ⟨by (with_reducible repeat (first | refine blk_drewN ?_ _ | refine blk_drew ?_ | refine blk_alloc ?_ _)); refine blk_far ?_ NB167_181.out _; (with_reducible repeat (first | refine blk_drewN ?_ _ | refine blk_drew ?_ | refine blk_alloc ?_ _)); refine blk_far ?_ NB167_181.out _; (with_reducible repeat (first | refine blk_drewN ?_ _ | refine blk_drew ?_ | refine blk_alloc ?_ _)); exact BK167.out⟩
             have n2_ : Aside0 (((w46.setCell ⟨gb181, 0, none⟩ (.int .i64 ((rd_T62 l3 x39_2).f0))).setCell ⟨gb181, 1, none⟩ (.int .i64 ((rd_T62 l3 x39_2).f1))).heap[gb168]? = some (.cells #[.int .i64 a1_0, .int .i64 a1_1] 35 (0, 0))) := ⟨by (with_reducible repeat (first | refine blk_drewN ?_ _ | refine blk_drew ?_ | refine blk_alloc ?_ _)); refine blk_far ?_ NB168_181.out _; (with_reducible repeat (first | refine blk_drewN ?_ _ | refine blk_drew ?_ | refine blk_alloc ?_ _)); refine blk_far ?_ NB168_181.out _; (with_reducible repeat (first | refine blk_drewN ?_ _ | refine blk_drew ?_ | refine blk_alloc ?_ _)); exact BK168.out⟩
             have n3_ : Aside0 (((w46.setCell ⟨gb181, 0, none⟩ (.int .i64 ((rd_T62 l3 x39_2).f0))).setCell ⟨gb181, 1, none⟩ (.int .i64 ((rd_T62 l3 x39_2).f1))).heap[gb181]? = some (.cells #[.int .i64 ((rd_T62 l3 x39_2).f0), .int .i64 ((rd_T62 l3 x39_2).f1)] 62 (0, 0))) := ⟨by (with_reducible repeat (first | refine blk_drewN ?_ _ | refine blk_drew ?_ | refine blk_alloc ?_ _)); refine blk_put (cs := #[.int .i64 ((rd_T62 l3 x39_2).f0), .int .i64 0]) ?_ 1 _ rfl; (with_reducible repeat (first | refine blk_drewN ?_ _ | refine blk_drew ?_ | refine blk_alloc ?_ _)); refine blk_put (cs := #[.int .i64 0, .int .i64 0]) ?_ 0 _ rfl; (with_reducible repeat (first | refine blk_drewN ?_ _ | refine blk_drew ?_ | refine blk_alloc ?_ _)); exact BK181.out⟩
             have n4_ : Aside0 (Below w.heap.size w ((w46.setCell ⟨gb181, 0, none⟩ (.int .i64 ((rd_T62 l3 x39_2).f0))).setCell ⟨gb181, 1, none⟩ (.int .i64 ((rd_T62 l3 x39_2).f1)))) := ⟨by repeat (first | (with_reducible first | exact HB.out | apply below_alloc | apply pw_below_drewN | apply below_drew1 | refine below_set ?_ GE181.out) | exact HB.out)⟩
             (try clear HO_11)
             (try clear BK167)
             (try clear BK168)
             (try clear BK181)
             (try clear HB)
             generalize ((w46.setCell ⟨gb181, 0, none⟩ (.int .i64 ((rd_T62 l3 x39_2).f0))).setCell ⟨gb181, 1, none⟩ (.int .i64 ((rd_T62 l3 x39_2).f1))) = w50 at n0_ n1_ n2_ n3_ n4_ ⊢
             have HO_11 := n0_
             have BK167 := n1_
             have BK168 := n2_
             have BK181 := n3_
             have HB := n4_
             clear n0_ n1_ n2_ n3_ n4_
             have n0_ := Aside0.mk (Kd.R_drew HO_11.out)
             have n1_ := Aside0.mk (blk_drew BK167.out)
             have n2_ := Aside0.mk (blk_drew BK168.out)
             have n3_ := Aside0.mk (blk_drew BK181.out)
             have n4_ := Aside0.mk (below_drew1 HB.out)
             clear HO_11
             clear BK167
             clear BK168
             clear BK181
             clear HB
             have HO_11 := n0_
             have BK167 := n1_
             have BK168 := n2_
             have BK181 := n3_
             have HB := n4_
             clear n0_ n1_ n2_ n3_ n4_
             obtain ⟨Ao52, co52, eo52⟩ := Kd.R_slice HO_11.out
             (first | subst eo52 | (injection eo52 with f1_ f2_ f3_; have f4_ := f1_.symm; have f5_ := f3_.symm; clear f1_ f2_ f3_; subst f4_; subst f5_))
             have p182 : 0 ≤ (((rd_T62 l3 x39_2).f0) : Int) := of_decide_eq_true (by first | (with_reducible assumption) | assumption)
             have q182 : ((rd_T62 l3 x39_2).f0) < (x11_2.length : Int) := of_decide_eq_true (by first | (with_reducible assumption) | assumption)
             obtain ⟨ad182, e182, hx182_0, hx182_1⟩ := at_T60 (Kd.R_reads' HO_11.out).2.2 ((rd_T62 l3 x39_2).f0) p182 q182
             cases e182
             replace p182 := eq_true p182
             replace q182 := eq_true q182
             have p30 : 0 ≤ (((rd_T62 l3 x39_2).f0) : Int) := of_decide_eq_true (by first | (with_reducible assumption) | assumption)
             have q30 : (((rd_T62 l3 x39_2).f0) : Int) < ((x11_2.length : Int) : Int) := of_decide_eq_true (by first | (with_reducible assumption) | assumption)
             obtain ⟨go30, co30, eo30, gb30, gl30, cl30, HG30⟩ := Kd.R_form HO_11.out (by omega)
             (first | cases eo30 | (injection eo30 with ea_ en_ ec_; (first | subst ea_ | (injection ea_ with ea_; subst ea_)); subst ec_; clear en_))
             have GB30 := Aside0.mk gb30
             have GG30 := Aside0.mk HG30
             clear gb30 gl30 HG30
             (first | simp only [add_plain] at hx182_0 | skip)
             (first | simp only [add_plain] at hx182_1 | skip)
             obtain ⟨ce30, hcl30, hM30, hcc30, hfr30⟩ := Kd.R_elem HO_11.out z60 (((rd_T62 l3 x39_2).f0) : Int) p30 q30
             obtain rfl := k60_openM hM30
             have hx30_0 : World.cell? _ ⟨go30, (((rd_T62 l3 x39_2).f0) : Int).toNat * 2, none⟩ = some (.int .i64 ((rd_T60 x11_2 ((rd_T62 l3 x39_2).f0)).f0)) := hcc30 0 _ rfl
             have hx30_1 : World.cell? _ ⟨go30, (((rd_T62 l3 x39_2).f0) : Int).toNat * 2 + 1, none⟩ = some (.int .i64 ((rd_T60 x11_2 ((rd_T62 l3 x39_2).f0)).f1)) := hcc30 1 _ rfl
             have hf30_0 : World.frozen? _ ⟨go30, (((rd_T62 l3 x39_2).f0) : Int).toNat * 2, none⟩ = false := hfr30 0
             have hf30_1 : World.frozen? _ ⟨go30, (((rd_T62 l3 x39_2).f0) : Int).toNat * 2 + 1, none⟩ = false := hfr30 1
             clear hcl30 hcc30 hfr30; (try clear hM30)
             replace p30 := eq_true p30
             replace q30 := eq_true q30
             obtain ⟨ce53, hcl53, hM53, hcc53, hfr53⟩ := Kd.R_elem HO_11.out z60 (((rd_T62 l3 x39_2).f0) : Int) (of_decide_eq_true (by first | (with_reducible assumption) | assumption)) (by have h_ : (((rd_T62 l3 x39_2).f0) : Int) < ((x11_2.length : Int) : Int) := of_decide_eq_true (by first | (with_reducible assumption) | assumption); first | exact h_ | (have e_ := (Kd.R_reads' HO_11.out).1; omega) | simpa using h_)
             obtain rfl := k60_openM hM53
             have HP53 := (Kd.R_seg HO_11.out (((rd_T62 l3 x39_2).f0) : Int) (of_decide_eq_true (by first | (with_reducible assumption) | assumption)) (by have h_ : (((rd_T62 l3 x39_2).f0) : Int) < ((x11_2.length : Int) : Int) := of_decide_eq_true (by first | (with_reducible assumption) | assumption); first | exact h_ | (have e_ := (Kd.R_reads' HO_11.out).1; omega) | simpa using h_) (seg := [.int .i64 (wrap64 (((rd_T60 x11_2 ((rd_T62 l3 x39_2).f0)).f0) - ((rd_T62 l3 x39_2).f1)))]) (j := 0) hcl53 hcc53 (show 1 ≤ 2 from by decide) (x' := (⟨wrap64 (((rd_T60 x11_2 ((rd_T62 l3 x39_2).f0)).f0) - ((rd_T62 l3 x39_2).f1)), (rd_T60 x11_2 ((rd_T62 l3 x39_2).f0)).f1⟩ : S60)) (k60_mkM _ _ _ (⟨wrap64 (((rd_T60 x11_2 ((rd_T62 l3 x39_2).f0)).f0) - ((rd_T62 l3 x39_2).f1)), (rd_T60 x11_2 ((rd_T62 l3 x39_2).f0)).f1⟩ : S60) ) (fun _ hk => hk)).1
             rw [← Ny183.out] at HP53
             have HQ53 := Aside0.mk HP53
             clear hcl53 hcc53 hfr53 HP53; (try clear hM53)
             refine start_ (n := 12) (S := fun w' => w'.cell? ⟨gb181, 0, none⟩ = some (.int .i64 ((rd_T62 l3 x39_2).f0)) ∧ w'.cell? ⟨gb181, 1, none⟩ = some (.int .i64 ((rd_T62 l3 x39_2).f1)) ∧ w'.cell? ⟨go30, ((((rd_T62 l3 x39_2).f0)).toNat * 2), none⟩ = some (.int .i64 ((rd_T60 x11_2 ((rd_T62 l3 x39_2).f0)).f0)) ∧ w'.cell? ⟨go30, ((((rd_T62 l3 x39_2).f0)).toNat * 2) + 1, none⟩ = some (.int .i64 ((rd_T60 x11_2 ((rd_T62 l3 x39_2).f0)).f1))) (ds := [11]) #[false, false, false, false, false, false, false, false, false, false, false, false] (by kernel_rfl) rfl rfl ⟨(blk_cell BK181.out 0).trans rfl, (blk_cell BK181.out 1).trans rfl, hx182_0, hx182_1⟩ (fun hHeld => ?_); refine with_tabW impl_Leaves.tab10 impl_Leaves.bits10 (fun HT_ HW_ => ?_)
             generalize w50.drew = w51 at HO_11 BK167 BK168 BK181 HB GG30 HQ53 hf30_0 hf30_1 hx182_0 hx182_1 hx30_0 hx30_1 hHeld ⊢
             refine pure_ (i := 0) (N := some 44) (v := ?_) (a' := ?_) #[true, false, false, false, false, false, false, false, false, false, false, false] rfl rfl (any_of HT_.out (by kernel_rfl)) (fun _ _ _ h => h) (Or.inl ⟨by rfl, ?_⟩) ?_ ?_; rotate_left
             ·intro w'
              go_simp; with_reducible rfl
             rotate_left
             ·simp only [Act.put, qa_, qb_, qc_, i64_w, i32_w]
              rfl
             refine pure_ (i := 1) (N := some 45) (v := ?_) (a' := ?_) #[true, true, false, false, false, false, false, false, false, false, false, false] rfl rfl (any_of HT_.out (by kernel_rfl)) (fun _ _ _ h => h) (Or.inl ⟨by rfl, ?_⟩) ?_ ?_; rotate_left
             ·intro w'
              go_simp; with_reducible rfl
             rotate_left
             ·simp only [Act.put, qa_, qb_, qc_, i64_w, i32_w]
              rfl
             refine pure_ (i := 6) (N := some 50) (v := ?_) (a' := ?_) #[true, true, false, false, false, false, true, false, false, false, false, false] rfl rfl (any_of HT_.out (by kernel_rfl)) (fun _ _ _ h => h) (Or.inl ⟨by rfl, ?_⟩) ?_ ?_; rotate_left
             ·intro w'
              go_simp; with_reducible rfl
             rotate_left
             ·simp only [Act.put, qa_, qb_, qc_, i64_w, i32_w]
              rfl
             refine take_ (i := 2) (N := some 46) (v := ?_) (a' := ?_) #[true, true, true, false, false, false, true, false, false, false, false, false] rfl rfl (take_ofW HT_.out HW_.out (by kernel_rfl)) (fun _ _ _ h => h) (Or.inl ⟨by rfl, ?_⟩) hHeld ?_ ?_; rotate_left
             ·rintro w' ⟨s0, s1, s2, s3⟩; go_simp; with_reducible rfl
             rotate_left
             ·simp only [Act.put, qa_, qb_, qc_, i64_w, i32_w]
              rfl
             refine pure_ (i := 3) (N := some 47) (v := ?_) (a' := ?_) #[true, true, true, true, false, false, true, false, false, false, false, false] rfl rfl (any_of HT_.out (by kernel_rfl)) (fun _ _ _ h => h) (Or.inl ⟨by rfl, ?_⟩) ?_ ?_; rotate_left
             ·intro w'
              go_simp; with_reducible rfl
             rotate_left
             ·simp only [Act.put, qa_, qb_, qc_, i64_w, i32_w]
              rfl
             refine pure_ (i := 4) (N := some 48) (v := ?_) (a' := ?_) #[true, true, true, true, true, false, true, false, false, false, false, false] rfl rfl (any_of HT_.out (by kernel_rfl)) (fun _ _ _ h => h) (Or.inl ⟨by rfl, ?_⟩) ?_ ?_; rotate_left
             ·intro w'
              go_simp; with_reducible rfl
             rotate_left
             ·simp only [Act.put, qa_, qb_, qc_, i64_w, i32_w]
              rfl
             refine take_ (i := 5) (N := some 49) (v := ?_) (a' := ?_) #[true, true, true, true, true, true, true, false, false, false, false, false] rfl rfl (take_ofW HT_.out HW_.out (by kernel_rfl)) (fun _ _ _ h => h) (Or.inl ⟨by rfl, ?_⟩) hHeld ?_ ?_; rotate_left
             ·rintro w' ⟨s0, s1, s2, s3⟩; go_simp; with_reducible rfl
             rotate_left
             ·simp only [Act.put, qa_, qb_, qc_, i64_w, i32_w]
              rfl
             refine take_ (i := 7) (N := some 51) (v := ?_) (a' := ?_) #[true, true, true, true, true, true, true, true, false, false, false, false] rfl rfl (take_ofW HT_.out HW_.out (by kernel_rfl)) (fun _ _ _ h => h) (Or.inl ⟨by rfl, ?_⟩) hHeld ?_ ?_; rotate_left
             ·rintro w' ⟨s0, s1, s2, s3⟩; go_simp; with_reducible rfl
             rotate_left
             ·simp only [Act.put, qa_, qb_, qc_, i64_w, i32_w]
              rfl
             refine pure_ (i := 8) (N := some 52) (v := ?_) (a' := ?_) #[true, true, true, true, true, true, true, true, true, false, false, false] rfl rfl (any_of HT_.out (by kernel_rfl)) (fun _ _ _ h => h) (Or.inl ⟨by rfl, ?_⟩) ?_ ?_; rotate_left
             ·intro w'
              go_simp; with_reducible rfl
             rotate_left
             ·simp only [Act.put, qa_, qb_, qc_, i64_w, i32_w]
              rfl
             refine pure_ (i := 9) (N := some 53) (v := ?_) (a' := ?_) #[true, true, true, true, true, true, true, true, true, true, false, false] rfl rfl (any_of HT_.out (by kernel_rfl)) (fun _ _ _ h => h) (Or.inl ⟨by rfl, ?_⟩) ?_ ?_; rotate_left
             ·intro w'
              go_simp; with_reducible rfl
             rotate_left
             ·simp only [Act.put, qa_, qb_, qc_, i64_w, i32_w]
              rfl
             refine pure_ (i := 10) (N := some 54) (v := ?_) (a' := ?_) #[true, true, true, true, true, true, true, true, true, true, true, false] rfl rfl (any_of HT_.out (by kernel_rfl)) (fun _ _ _ h => h) (Or.inl ⟨by rfl, ?_⟩) ?_ ?_; rotate_left
             ·intro w'
              go_simp; with_reducible rfl
             rotate_left
             ·simp only [Act.put, qa_, qb_, qc_, i64_w, i32_w]
              rfl
             refine last_ (i := 11) (N := none) #[true, true, true, true, true, true, true, true, true, true, true, true] rfl rfl (one_of HT_.out (by kernel_rfl)) (by decide) (fun K hK => ?_)
             refine skip_ (w1 := ?_) (by rfl) rfl ?_ ?_; rotate_left
             ·go_simp
              rfl
             refine hK.out _ _ ?_
             clear hK K
             refine done_ (done_of HT_.out (by kernel_rfl)) ?_
             try go_wp2
             have n0_ : Aside0 (Kd.R k60 60 (w51.setCell ⟨go30, (((rd_T62 l3 x39_2).f0) : Int).toNat * 2, none⟩ (.int .i64 (wrap64 (((rd_T60 x11_2 ((rd_T62 l3 x39_2).f0)).f0) - ((rd_T62 l3 x39_2).f1))))) w.heap.size (fun _ => True) (.slice (some ⟨go30, 0, none⟩) x11_2.length co52) y183) := ⟨by (with_reducible repeat (first | apply Kd.R_alloc | apply Kd.R_drewN | apply Kd.R_drew)); exact HQ53.out⟩
             have n1_ : Aside0 ((w51.setCell ⟨go30, (((rd_T62 l3 x39_2).f0) : Int).toNat * 2, none⟩ (.int .i64 (wrap64 (((rd_T60 x11_2 ((rd_T62 l3 x39_2).f0)).f0) - ((rd_T62 l3 x39_2).f1))))).heap[gb167]? = some (.cells #[.slice A0_0 l0_0.length c0_0, .slice A0_1 l0_1.length c0_1, .slice A0_2 l0_2.length c0_2] 33 (0, 0))) := ⟨by (with_reducible repeat (first | refine blk_drewN ?_ _ | refine blk_drew ?_ | refine blk_alloc ?_ _)); refine blk_far ?_ (by have h_ := Kd.R_ne HO_11.out BK167.out (by decide); intro e_; exact h_ (by rw [e_]; rfl)) _; (with_reducible repeat (first | refine blk_drewN ?_ _ | refine blk_drew ?_ | refine blk_alloc ?_ _)); exact BK167.out⟩
             have n2_ : Aside0 ((w51.setCell ⟨go30, (((rd_T62 l3 x39_2).f0) : Int).toNat * 2, none⟩ (.int .i64 (wrap64 (((rd_T60 x11_2 ((rd_T62 l3 x39_2).f0)).f0) - ((rd_T62 l3 x39_2).f1))))).heap[gb168]? = some (.cells #[.int .i64 a1_0, .int .i64 a1_1] 35 (0, 0))) := ⟨by (with_reducible repeat (first | refine blk_drewN ?_ _ | refine blk_drew ?_ | refine blk_alloc ?_ _)); refine blk_far ?_ (by have h_ := Kd.R_ne HO_11.out BK168.out (by decide); intro e_; exact h_ (by rw [e_]; rfl)) _; (with_reducible repeat (first | refine blk_drewN ?_ _ | refine blk_drew ?_ | refine blk_alloc ?_ _)); exact BK168.out⟩
             have n3_ : Aside0 ((w51.setCell ⟨go30, (((rd_T62 l3 x39_2).f0) : Int).toNat * 2, none⟩ (.int .i64 (wrap64 (((rd_T60 x11_2 ((rd_T62 l3 x39_2).f0)).f0) - ((rd_T62 l3 x39_2).f1))))).heap[gb181]? = some (.cells #[.int .i64 ((rd_T62 l3 x39_2).f0), .int .i64 ((rd_T62 l3 x39_2).f1)] 62 (0, 0))) := ⟨by (with_reducible repeat (first | refine blk_drewN ?_ _ | refine blk_drew ?_ | refine blk_alloc ?_ _)); refine blk_far ?_ (by have h_ := Kd.R_ne HO_11.out BK181.out (by decide); intro e_; exact h_ (by rw [e_]; rfl)) _; (with_reducible repeat (first | refine blk_drewN ?_ _ | refine blk_drew ?_ | refine blk_alloc ?_ _)); exact BK181.out⟩
             have n4_ : Aside0 (Below w.heap.size w (w51.setCell ⟨go30, (((rd_T62 l3 x39_2).f0) : Int).toNat * 2, none⟩ (.int .i64 (wrap64 (((rd_T60 x11_2 ((rd_T62 l3 x39_2).f0)).f0) - ((rd_T62 l3 x39_2).f1)))))) := ⟨by repeat (first | (with_reducible first | exact HB.out | apply below_alloc | apply pw_below_drewN | apply below_drew1 | refine below_set ?_ GB30.out) | exact HB.out)⟩
             (try clear HO_11)
             (try clear BK167)
             (try clear BK168)
             (try clear BK181)
             (try clear HB)
             generalize (w51.setCell ⟨go30, (((rd_T62 l3 x39_2).f0) : Int).toNat * 2, none⟩ (.int .i64 (wrap64 (((rd_T60 x11_2 ((rd_T62 l3 x39_2).f0)).f0) - ((rd_T62 l3 x39_2).f1))))) = w54 at n0_ n1_ n2_ n3_ n4_ ⊢
             have HO_11 := n0_
             have BK167 := n1_
             have BK168 := n2_
             have BK181 := n3_
             have HB := n4_
             clear n0_ n1_ n2_ n3_ n4_
             have n0_ := Aside0.mk (Kd.R_drew HO_11.out)
             have n1_ := Aside0.mk (blk_drew BK167.out)
             have n2_ := Aside0.mk (blk_drew BK168.out)
             have n3_ := Aside0.mk (blk_drew BK181.out)
             have n4_ := Aside0.mk (below_drew1 HB.out)
             clear HO_11
             clear BK167
             clear BK168
             clear BK181
             clear HB
             have HO_11 := n0_
             have BK167 := n1_
             have BK168 := n2_
             have BK181 := n3_
             have HB := n4_
             clear n0_ n1_ n2_ n3_ n4_
             refine start_ (n := 6) (S := fun w' => w'.cell? ⟨gb167, 0, none⟩ = some (.slice A0_0 l0_0.length c0_0) ∧ w'.cell? ⟨gb167, 1, none⟩ = some (.slice A0_1 l0_1.length c0_1) ∧ w'.cell? ⟨gb167, 2, none⟩ = some (.slice A0_2 l0_2.length c0_2) ∧ w'.cell? ⟨gb168, 0, none⟩ = some (.int .i64 a1_0) ∧ w'.cell? ⟨gb168, 1, none⟩ = some (.int .i64 a1_1)) (ds := []) #[false, false, false, false, false, false] (by kernel_rfl) rfl rfl ⟨(blk_cell BK167.out 0).trans rfl, (blk_cell BK167.out 1).trans rfl, (blk_cell BK167.out 2).trans rfl, (blk_cell BK168.out 0).trans rfl, (blk_cell BK168.out 1).trans rfl⟩ (fun hHeld => ?_)
             generalize w54.drew = w55 at HO_11 BK167 BK168 BK181 HB HQ53 hHeld ⊢
             refine pure_ (i := 2) (N := some 57) (v := ?_) (a' := ?_) #[false, false, true, false, false, false] rfl rfl (by kernel_rfl) (fun _ _ _ h => h) (Or.inl ⟨by rfl, ?_⟩) ?_ ?_; rotate_left
             ·intro w'
              go_simp; with_reducible rfl
             rotate_left
             ·simp only [Act.put, qa_, qb_, qc_, i64_w, i32_w]
              rfl
             refine take_ (i := 0) (N := some 55) (v := ?_) (a' := ?_) #[true, false, true, false, false, false] rfl rfl (by kernel_rfl) (fun _ _ _ h => h) (Or.inl ⟨by rfl, ?_⟩) hHeld ?_ ?_; rotate_left
             ·rintro w' ⟨s0, s1, s2, s3, s4⟩; go_simp; with_reducible rfl
             rotate_left
             ·simp only [Act.put, qa_, qb_, qc_, i64_w, i32_w]
              rfl
             refine take_ (i := 1) (N := some 56) (v := ?_) (a' := ?_) #[true, true, true, false, false, false] rfl rfl (by kernel_rfl) (fun _ _ _ h => h) (Or.inl ⟨by rfl, ?_⟩) hHeld ?_ ?_; rotate_left
             ·rintro w' ⟨s0, s1, s2, s3, s4⟩; go_simp; with_reducible rfl
             rotate_left
             ·simp only [Act.put, qa_, qb_, qc_, i64_w, i32_w]
              rfl
             refine one_ (i := 3) (N := some 58) #[true, true, true, true, false, false] rfl rfl (by kernel_rfl) (by decide) (fun K hK => ?_)
             refine goes_ Try.func40 (by kernel_rfl) rfl #[.agg #[.int .i64 a1_0, .int .i64 a1_1], .slice (some ⟨go30, 0, none⟩) y183.length co52] (by rfl) rfl rfl (by (try simp only [List.map_toArray, List.map_cons, List.map_nil]); first | done | (rw [show y183.length = x11_2.length from (Kd.R_reads' HO_11.out).1.symm] <;> rfl) | rfl | (simp only [List.length_drop, List.length_take]; rfl)) ?_
             with_reducible refine (impl_laden.calls k2 a1_0 a1_1 _ _ y183 t184 t185 _ ?side1 ?side2 A31.out).mono ?_
             (case side1 => repeat (first | exact (Kd.R_reads' HO_11.out).2.2 | (with_reducible refine Kd.C_alloc ?_ _) | (with_reducible refine Kd.C_drewN ?_ _) | (with_reducible refine Kd.C_drew ?_)))
             (case side2 => rw [show y183.length = x11_2.length from (Kd.R_reads' HO_11.out).1.symm]; exact (Kd.R_reads' HO_11.out).2.1)
             rintro e w56 ⟨rfl, hb⟩
             refine ⟨_, rfl, ?_⟩
             have n0_ := Aside0.mk (Kd.R_below (by (with_reducible repeat (first | apply Kd.R_alloc | apply Kd.R_drewN | apply Kd.R_drew)); exact HO_11.out) hb)
             have n1_ := Aside0.mk (blk_below (g := gb167) (o := .cells #[.slice A0_0 l0_0.length c0_0, .slice A0_1 l0_1.length c0_1, .slice A0_2 l0_2.length c0_2] 33 (0, 0)) (by (with_reducible repeat (first | refine blk_drewN ?_ _ | refine blk_drew ?_ | refine blk_alloc ?_ _)); exact BK167.out) hb)
             have n2_ := Aside0.mk (blk_below (g := gb168) (o := .cells #[.int .i64 a1_0, .int .i64 a1_1] 35 (0, 0)) (by (with_reducible repeat (first | refine blk_drewN ?_ _ | refine blk_drew ?_ | refine blk_alloc ?_ _)); exact BK168.out) hb)
             have n3_ := Aside0.mk (blk_below (g := gb181) (o := .cells #[.int .i64 ((rd_T62 l3 x39_2).f0), .int .i64 ((rd_T62 l3 x39_2).f1)] 62 (0, 0)) (by (with_reducible repeat (first | refine blk_drewN ?_ _ | refine blk_drew ?_ | refine blk_alloc ?_ _)); exact BK181.out) hb)
             have n4_ := Aside0.mk (below_step (by repeat (first | (with_reducible first | exact HB.out | apply below_alloc | apply pw_below_drewN | apply below_drew1) | exact HB.out)) hb)
             clear HO_11
             clear BK167
             clear BK168
             clear BK181
             clear HB
             have HO_11 := n0_
             have BK167 := n1_
             have BK168 := n2_
             have BK181 := n3_
             have HB := n4_
             clear n0_ n1_ n2_ n3_ n4_
             (try clear hb)
             (try clear hb2)
             (try clear hk)
             (try clear hi)
             refine hK.out _ _ ⟨(blk_cell BK167.out 0).trans rfl, (blk_cell BK167.out 1).trans rfl, (blk_cell BK167.out 2).trans rfl, (blk_cell BK168.out 0).trans rfl, (blk_cell BK168.out 1).trans rfl⟩ (fun hHeld => ?_)
             clear hK K
             refine norm_ (a' := ?_) ?_ ?_; rotate_left
             ·show Act.put _ (some 58) _ = _
              simp only [Act.put, qa_, qb_, qc_, i64_w, i32_w]
              rfl
             refine one_ (i := 4) (N := some 59) #[true, true, true, true, true, false] rfl rfl (by kernel_rfl) (by decide) (fun K hK => ?_)
             refine goes_ Try.func39 (by kernel_rfl) rfl #[.agg #[.slice A0_0 l0_0.length c0_0, .slice A0_1 l0_1.length c0_1, .slice A0_2 l0_2.length c0_2], .agg #[.int .i64 t184, .int .i64 t185]] (by rfl) rfl rfl (by (try simp only [List.map_toArray, List.map_cons, List.map_nil]); first | done | rfl | (simp only [List.length_drop, List.length_take]; rfl)) ?_
             with_reducible refine (impl_inside.calls k2 _ _ l0_0 _ _ l0_1 _ _ l0_2 t184 t185 false _ ?side1 ?side2 ?side3 ?side4 ?side5 ?side6 A32.out).mono ?_
             (case side1 => repeat (first | exact (Kd.C_below HR0_0.out HB.out) | (with_reducible refine Kd.C_alloc ?_ _) | (with_reducible refine Kd.C_drewN ?_ _) | (with_reducible refine Kd.C_drew ?_)))
             (case side2 => exact HC0_0.out)
             (case side3 => repeat (first | exact (Kd.C_below HR0_1.out HB.out) | (with_reducible refine Kd.C_alloc ?_ _) | (with_reducible refine Kd.C_drewN ?_ _) | (with_reducible refine Kd.C_drew ?_)))
             (case side4 => exact HC0_1.out)
             (case side5 => repeat (first | exact (Kd.C_below HR0_2.out HB.out) | (with_reducible refine Kd.C_alloc ?_ _) | (with_reducible refine Kd.C_drewN ?_ _) | (with_reducible refine Kd.C_drew ?_)))
             (case side6 => exact HC0_2.out)
             rintro e w57 ⟨rfl, hb⟩
             refine ⟨_, rfl, ?_⟩
             have n0_ := Aside0.mk (Kd.R_below (by (with_reducible repeat (first | apply Kd.R_alloc | apply Kd.R_drewN | apply Kd.R_drew)); exact HO_11.out) hb)
             have n1_ := Aside0.mk (blk_below (g := gb167) (o := .cells #[.slice A0_0 l0_0.length c0_0, .slice A0_1 l0_1.length c0_1, .slice A0_2 l0_2.length c0_2] 33 (0, 0)) (by (with_reducible repeat (first | refine blk_drewN ?_ _ | refine blk_drew ?_ | refine blk_alloc ?_ _)); exact BK167.out) hb)
             have n2_ := Aside0.mk (blk_below (g := gb168) (o := .cells #[.int .i64 a1_0, .int .i64 a1_1] 35 (0, 0)) (by (with_reducible repeat (first | refine blk_drewN ?_ _ | refine blk_drew ?_ | refine blk_alloc ?_ _)); exact BK168.out) hb)
             have n3_ := Aside0.mk (blk_below (g := gb181) (o := .cells #[.int .i64 ((rd_T62 l3 x39_2).f0), .int .i64 ((rd_T62 l3 x39_2).f1)] 62 (0, 0)) (by (with_reducible repeat (first | refine blk_drewN ?_ _ | refine blk_drew ?_ | refine blk_alloc ?_ _)); exact BK181.out) hb)
             have n4_ := Aside0.mk (below_step (by repeat (first | (with_reducible first | exact HB.out | apply below_alloc | apply pw_below_drewN | apply below_drew1) | exact HB.out)) hb)
             clear HO_11
             clear BK167
             clear BK168
             clear BK181
             clear HB
             have HO_11 := n0_
             have BK167 := n1_
             have BK168 := n2_
             have BK181 := n3_
             have HB := n4_
             clear n0_ n1_ n2_ n3_ n4_
             (try clear hb)
             (try clear hb2)
             (try clear hk)
             (try clear hi)
             refine hK.out _ _ ⟨(blk_cell BK167.out 0).trans rfl, (blk_cell BK167.out 1).trans rfl, (blk_cell BK167.out 2).trans rfl, (blk_cell BK168.out 0).trans rfl, (blk_cell BK168.out 1).trans rfl⟩ (fun hHeld => ?_)
             clear hK K
             refine norm_ (a' := ?_) ?_ ?_; rotate_left
             ·show Act.put _ (some 59) _ = _
              simp only [Act.put, qa_, qb_, qc_, i64_w, i32_w]
              rfl
             refine pure_ (i := 5) (N := some 60) (v := ?_) (a' := ?_) #[true, true, true, true, true, true] rfl rfl (by kernel_rfl) (fun _ _ _ h => h) (Or.inl ⟨by rfl, ?_⟩) ?_ ?_; rotate_left
             ·intro w'
              go_simp; with_reducible rfl
             rotate_left
             ·simp only [Act.put, qa_, qb_, qc_, i64_w, i32_w]
              rfl
             refine done_ (by kernel_rfl) ?_
             try go_wp2
             go_ret
             exact ⟨by first | rfl | (simp [errW_none, errW_some] <;> rfl) | (simp [*, errW_none, errW_some] <;> rfl), by repeat (first | (with_reducible first | exact HB.out | apply below_alloc | apply pw_below_drewN | apply below_drew1) | exact HB.out)⟩
           ·rw [if_neg c29] at H
            exact absurd H (by simp)
          ·rw [if_neg c28] at H
           exact absurd H (by simp)
         ·rw [if_neg c27] at H
          exact absurd H (by simp)
        ·rw [if_neg c26] at H
         exact absurd H (by simp)
       ·rw [if_neg c25] at H
        have c25b0 : decide (x39_2 < (l3.length : Int)) = false := decide_eq_false c25
        clear c25
        obtain rfl := Option.some.inj H
        go_wp2
        go_ret
        exact ⟨by first | rfl | (simp [errW_none, errW_some] <;> rfl) | (simp [*, errW_none, errW_some] <;> rfl), by repeat (first | (with_reducible first | exact HB.out | apply below_alloc | apply pw_below_drewN | apply below_drew1) | exact HB.out)⟩
    ·replace c19 := Bool.eq_false_iff.mpr c19
     subst c19
     have H1 : (some (-1)) = some r := by rw [if_neg (show ¬ (false = true) by decide)] at H; exact H
     clear H
     have H := H1
     clear H1
     obtain rfl := Option.some.inj H
     try go_wp2
     have n0_ := Aside0.mk (blk_drew BK167.out)
     have n1_ := Aside0.mk (blk_drew BK168.out)
     have n2_ := Aside0.mk (below_drew1 HB.out)
     clear BK167
     clear BK168
     clear HB
     have BK167 := n0_
     have BK168 := n1_
     have HB := n2_
     clear n0_ n1_ n2_
     refine start_ (n := 6) (S := fun w' => w'.cell? ⟨gb167, 0, none⟩ = some (.slice A0_0 l0_0.length c0_0) ∧ w'.cell? ⟨gb167, 1, none⟩ = some (.slice A0_1 l0_1.length c0_1) ∧ w'.cell? ⟨gb167, 2, none⟩ = some (.slice A0_2 l0_2.length c0_2) ∧ w'.cell? ⟨gb168, 0, none⟩ = some (.int .i64 a1_0) ∧ w'.cell? ⟨gb168, 1, none⟩ = some (.int .i64 a1_1)) (ds := []) #[false, false, false, false, false, false] (by kernel_rfl) rfl rfl ⟨(blk_cell BK167.out 0).trans rfl, (blk_cell BK167.out 1).trans rfl, (blk_cell BK167.out 2).trans rfl, (blk_cell BK168.out 0).trans rfl, (blk_cell BK168.out 1).trans rfl⟩ (fun hHeld => ?_)
     generalize wc.drew = w58 at BK167 BK168 HB hHeld ⊢
     refine pure_ (i := 2) (N := some 31) (v := ?_) (a' := ?_) #[false, false, true, false, false, false] rfl rfl (by kernel_rfl) (fun _ _ _ h => h) (Or.inl ⟨by rfl, ?_⟩) ?_ ?_; rotate_left
     ·intro w'
      go_simp; with_reducible rfl
     rotate_left
     ·simp only [Act.put, qa_, qb_, qc_, i64_w, i32_w]
      rfl
     refine take_ (i := 0) (N := some 29) (v := ?_) (a' := ?_) #[true, false, true, false, false, false] rfl rfl (by kernel_rfl) (fun _ _ _ h => h) (Or.inl ⟨by rfl, ?_⟩) hHeld ?_ ?_; rotate_left
     ·rintro w' ⟨s0, s1, s2, s3, s4⟩; go_simp; with_reducible rfl
     rotate_left
     ·simp only [Act.put, qa_, qb_, qc_, i64_w, i32_w]
      rfl
     refine take_ (i := 1) (N := some 30) (v := ?_) (a' := ?_) #[true, true, true, false, false, false] rfl rfl (by kernel_rfl) (fun _ _ _ h => h) (Or.inl ⟨by rfl, ?_⟩) hHeld ?_ ?_; rotate_left
     ·rintro w' ⟨s0, s1, s2, s3, s4⟩; go_simp; with_reducible rfl
     rotate_left
     ·simp only [Act.put, qa_, qb_, qc_, i64_w, i32_w]
      rfl
     refine one_ (i := 3) (N := some 32) #[true, true, true, true, false, false] rfl rfl (by kernel_rfl) (by decide) (fun K hK => ?_)
     refine goes_ Try.func40 (by kernel_rfl) rfl #[.agg #[.int .i64 a1_0, .int .i64 a1_1], .slice A2 l2.length c2] (by rfl) rfl rfl (by (try simp only [List.map_toArray, List.map_cons, List.map_nil]); first | done | rfl | (simp only [List.length_drop, List.length_take]; rfl)) ?_
     with_reducible refine (impl_laden.calls kj5 a1_0 a1_1 _ _ l2 t174 t175 _ ?side1 ?side2 A17.out).mono ?_
     (case side1 => repeat (first | exact (Kd.C_below HR2.out HB.out) | (with_reducible refine Kd.C_alloc ?_ _) | (with_reducible refine Kd.C_drewN ?_ _) | (with_reducible refine Kd.C_drew ?_)))
     (case side2 => exact HC2.out)
     rintro e w59 ⟨rfl, hb⟩
     refine ⟨_, rfl, ?_⟩
     have n0_ := Aside0.mk (blk_below (g := gb167) (o := .cells #[.slice A0_0 l0_0.length c0_0, .slice A0_1 l0_1.length c0_1, .slice A0_2 l0_2.length c0_2] 33 (0, 0)) (by (with_reducible repeat (first | refine blk_drewN ?_ _ | refine blk_drew ?_ | refine blk_alloc ?_ _)); exact BK167.out) hb)
     have n1_ := Aside0.mk (blk_below (g := gb168) (o := .cells #[.int .i64 a1_0, .int .i64 a1_1] 35 (0, 0)) (by (with_reducible repeat (first | refine blk_drewN ?_ _ | refine blk_drew ?_ | refine blk_alloc ?_ _)); exact BK168.out) hb)
     have n2_ := Aside0.mk (below_step (by repeat (first | (with_reducible first | exact HB.out | apply below_alloc | apply pw_below_drewN | apply below_drew1) | exact HB.out)) hb)
     clear BK167
     clear BK168
     clear HB
     have BK167 := n0_
     have BK168 := n1_
     have HB := n2_
     clear n0_ n1_ n2_
     (try clear hb)
     (try clear hb2)
     (try clear hk)
     (try clear hi)
     refine hK.out _ _ ⟨(blk_cell BK167.out 0).trans rfl, (blk_cell BK167.out 1).trans rfl, (blk_cell BK167.out 2).trans rfl, (blk_cell BK168.out 0).trans rfl, (blk_cell BK168.out 1).trans rfl⟩ (fun hHeld => ?_)
     clear hK K
     refine norm_ (a' := ?_) ?_ ?_; rotate_left
     ·show Act.put _ (some 32) _ = _
      simp only [Act.put, qa_, qb_, qc_, i64_w, i32_w]
      rfl
     refine one_ (i := 4) (N := some 33) #[true, true, true, true, true, false] rfl rfl (by kernel_rfl) (by decide) (fun K hK => ?_)
     refine goes_ Try.func39 (by kernel_rfl) rfl #[.agg #[.slice A0_0 l0_0.length c0_0, .slice A0_1 l0_1.length c0_1, .slice A0_2 l0_2.length c0_2], .agg #[.int .i64 t174, .int .i64 t175]] (by rfl) rfl rfl (by (try simp only [List.map_toArray, List.map_cons, List.map_nil]); first | done | rfl | (simp only [List.length_drop, List.length_take]; rfl)) ?_
     with_reducible refine (impl_inside.calls kj5 _ _ l0_0 _ _ l0_1 _ _ l0_2 t174 t175 false _ ?side1 ?side2 ?side3 ?side4 ?side5 ?side6 A18.out).mono ?_
     (case side1 => repeat (first | exact (Kd.C_below HR0_0.out HB.out) | (with_reducible refine Kd.C_alloc ?_ _) | (with_reducible refine Kd.C_drewN ?_ _) | (with_reducible refine Kd.C_drew ?_)))
     (case side2 => exact HC0_0.out)
     (case side3 => repeat (first | exact (Kd.C_below HR0_1.out HB.out) | (with_reducible refine Kd.C_alloc ?_ _) | (with_reducible refine Kd.C_drewN ?_ _) | (with_reducible refine Kd.C_drew ?_)))
     (case side4 => exact HC0_1.out)
     (case side5 => repeat (first | exact (Kd.C_below HR0_2.out HB.out) | (with_reducible refine Kd.C_alloc ?_ _) | (with_reducible refine Kd.C_drewN ?_ _) | (with_reducible refine Kd.C_drew ?_)))
     (case side6 => exact HC0_2.out)
     rintro e w60 ⟨rfl, hb⟩
     refine ⟨_, rfl, ?_⟩
     have n0_ := Aside0.mk (blk_below (g := gb167) (o := .cells #[.slice A0_0 l0_0.length c0_0, .slice A0_1 l0_1.length c0_1, .slice A0_2 l0_2.length c0_2] 33 (0, 0)) (by (with_reducible repeat (first | refine blk_drewN ?_ _ | refine blk_drew ?_ | refine blk_alloc ?_ _)); exact BK167.out) hb)
     have n1_ := Aside0.mk (blk_below (g := gb168) (o := .cells #[.int .i64 a1_0, .int .i64 a1_1] 35 (0, 0)) (by (with_reducible repeat (first | refine blk_drewN ?_ _ | refine blk_drew ?_ | refine blk_alloc ?_ _)); exact BK168.out) hb)
     have n2_ := Aside0.mk (below_step (by repeat (first | (with_reducible first | exact HB.out | apply below_alloc | apply pw_below_drewN | apply below_drew1) | exact HB.out)) hb)
     clear BK167
     clear BK168
     clear HB
     have BK167 := n0_
     have BK168 := n1_
     have HB := n2_
     clear n0_ n1_ n2_
     (try clear hb)
     (try clear hb2)
     (try clear hk)
     (try clear hi)
     refine hK.out _ _ ⟨(blk_cell BK167.out 0).trans rfl, (blk_cell BK167.out 1).trans rfl, (blk_cell BK167.out 2).trans rfl, (blk_cell BK168.out 0).trans rfl, (blk_cell BK168.out 1).trans rfl⟩ (fun hHeld => ?_)
     clear hK K
     refine norm_ (a' := ?_) ?_ ?_; rotate_left
     ·show Act.put _ (some 33) _ = _
      simp only [Act.put, qa_, qb_, qc_, i64_w, i32_w]
      rfl
     refine pure_ (i := 5) (N := some 34) (v := ?_) (a' := ?_) #[true, true, true, true, true, true] rfl rfl (by kernel_rfl) (fun _ _ _ h => h) (Or.inl ⟨by rfl, ?_⟩) ?_ ?_; rotate_left
     ·intro w'
      go_simp; with_reducible rfl
     rotate_left
     ·simp only [Act.put, qa_, qb_, qc_, i64_w, i32_w]
      rfl
     refine done_ (by kernel_rfl) ?_
     try go_wp2
     go_ret
     exact ⟨by first | rfl | (simp [errW_none, errW_some] <;> rfl) | (simp [*, errW_none, errW_some] <;> rfl), by repeat (first | (with_reducible first | exact HB.out | apply below_alloc | apply pw_below_drewN | apply below_drew1) | exact HB.out)⟩

end Go.Proofs.Yteedbciobdcmaaa.QFnBurnt
