/- Lean functions that tell what the Go functions used by one law answer, and for each a proof that the Go code comes to just these answers; no condition. Printed by this session's own program over the kit's printer. -/
import Derived.Test.YtnphbpkpjinddaaWSq
import Derived.Test.YtnphbpkpjinddaaQFnExactAtGridx0
import Derived.Test.YtnphbpkpjinddaaQFnExactAtGridx1
import Derived.Test.YtnphbpkpjinddaaQFnExactAtGridx2
namespace Go.Proofs.Ytnphbpkpjinddaa.QFnExactAtGrid
open Go.RowKit Go.Proofs.YtnphbpkpjinddaaW.PrintWords Go.Proofs.YtnphbpkpjinddaaW.PrintLast Go.Proofs.YtnphbpkpjinddaaW.PrintMore
attribute [local go_sem] max2_int min2_int max_two min_two max_three min_three max_four min_four   -- for this text's walks alone
attribute [local go_sem high] go_eql go_neq go_lss go_leq go_gtr go_geq go_store   -- for this text's walks alone
set_option linter.unusedVariables false
set_option linter.unusedSimpArgs false

/-! ### spec_AtGrid: function 43 -/
def spec_AtGrid.j0 : Nat → Int → Int → Bool → List Int → List Int → List (List Int) → Option (Int × Int × Bool)
 | 0, _, _, _, _, _, _ => none
 | k + 1, x1, x2, O6, b3, b8, b1 => if O6 = true then (some (0, 0, false)) else ((spec_l1Low.f k b3 x1).bind fun a5 => ((spec_l1Low.f k b8 x2).bind fun a6 => (if 0 ≤ (wrap64 (a5 + 1)) then (if (wrap64 (a5 + 1)) < (b3.length : Int) then (if 0 ≤ a5 then (if a5 < (b3.length : Int) then (if 0 ≤ (wrap64 (a6 + 1)) then (if (wrap64 (a6 + 1)) < (b8.length : Int) then (if 0 ≤ a6 then (if a6 < (b8.length : Int) then (if a6 < (b1.length : Int) then (if a5 < ((rd_L1 b1 a6).length : Int) then (if (wrap64 (a5 + 1)) < ((rd_L1 b1 a6).length : Int) then (if (wrap64 (a6 + 1)) < (b1.length : Int) then (if a5 < ((rd_L1 b1 (wrap64 (a6 + 1))).length : Int) then (if (wrap64 (a5 + 1)) < ((rd_L1 b1 (wrap64 (a6 + 1))).length : Int) then ((spec_l1Frac.f k (wrap64 ((wrap64 ((wrap64 ((wrap64 ((rd (rd_L1 b1 a6) a5) * (wrap64 ((rd b3 (wrap64 (a5 + 1))) - (rd b3 a5))))) + (wrap64 ((wrap64 ((rd (rd_L1 b1 a6) (wrap64 (a5 + 1))) - (rd (rd_L1 b1 a6) a5))) * (wrap64 (x1 - (rd b3 a5))))))) * (wrap64 ((rd b8 (wrap64 (a6 + 1))) - (rd b8 a6))))) + (wrap64 ((wrap64 ((wrap64 ((wrap64 ((rd (rd_L1 b1 (wrap64 (a6 + 1))) a5) * (wrap64 ((rd b3 (wrap64 (a5 + 1))) - (rd b3 a5))))) + (wrap64 ((wrap64 ((rd (rd_L1 b1 (wrap64 (a6 + 1))) (wrap64 (a5 + 1))) - (rd (rd_L1 b1 (wrap64 (a6 + 1))) a5))) * (wrap64 (x1 - (rd b3 a5))))))) - (wrap64 ((wrap64 ((rd (rd_L1 b1 a6) a5) * (wrap64 ((rd b3 (wrap64 (a5 + 1))) - (rd b3 a5))))) + (wrap64 ((wrap64 ((rd (rd_L1 b1 a6) (wrap64 (a5 + 1))) - (rd (rd_L1 b1 a6) a5))) * (wrap64 (x1 - (rd b3 a5))))))))) * (wrap64 (x2 - (rd b8 a6))))))) (wrap64 ((wrap64 ((rd b3 (wrap64 (a5 + 1))) - (rd b3 a5))) * (wrap64 ((rd b8 (wrap64 (a6 + 1))) - (rd b8 a6)))))).bind fun b6 => (some (b6.1, b6.2, true))) else (none)) else (none)) else (none)) else (none)) else (none)) else (none)) else (none)) else (none)) else (none)) else (none)) else (none)) else (none)) else (none)) else (none))))
def spec_AtGrid.f (k : Nat) (l0_0 : List Int) (l0_1 : List Int) (l0_2 : List (List Int)) (a1 : Int) (a2 : Int) : Option (Int × Int × Bool) := (spec_GridOk.f k l0_0 l0_1 l0_2).bind fun o2 => (if o2 = true then (if 0 < (l0_0.length : Int) then (if 0 ≤ (wrap64 ((l0_0.length : Int) - 1)) then (if (wrap64 ((l0_0.length : Int) - 1)) < (l0_0.length : Int) then ((spec_l1In.f a1 (rd l0_0 0) (rd l0_0 (wrap64 ((l0_0.length : Int) - 1)))).bind fun h8 => (if h8 = true then (if 0 < (l0_1.length : Int) then (if 0 ≤ (wrap64 ((l0_1.length : Int) - 1)) then (if (wrap64 ((l0_1.length : Int) - 1)) < (l0_1.length : Int) then ((spec_l1In.f a2 (rd l0_1 0) (rd l0_1 (wrap64 ((l0_1.length : Int) - 1)))).bind fun c1 => (spec_AtGrid.j0 k a1 a2 (!c1) l0_0 l0_1 l0_2)) else (none)) else (none)) else (none)) else (spec_AtGrid.j0 k a1 a2 true l0_0 l0_1 l0_2))) else (none)) else (none)) else (none)) else (spec_AtGrid.j0 k a1 a2 true l0_0 l0_1 l0_2))
theorem spec_AtGrid.mono_l : ∀ k, (∀ y0 y1 y2 y3 y4 y5, LeO (spec_AtGrid.j0 k y0 y1 y2 y3 y4 y5) (spec_AtGrid.j0 (k + 1) y0 y1 y2 y3 y4 y5))
 | 0 => fun _ _ _ _ _ _ r h => by simp [spec_AtGrid.j0] at h
 | k + 1 => by
  have A2 := spec_AtGrid.mono_l k
  ·intro y0 y1 y2 y3 y4 y5
   unfold spec_AtGrid.j0
   repeat' first
   | (with_reducible exact A2 _ _ _ _ _ _)
   | (with_reducible exact spec_GridOk.mono _ _ _ _)
   | (with_reducible exact spec_l1Frac.mono _ _ _)
   | (with_reducible exact spec_l1Low.mono _ _ _)
   | (with_reducible exact LeO.refl _)
   | (with_reducible exact LeO.none _)
   | (with_reducible refine LeO.ite ?_ ?_)
   | (with_reducible refine LeO.bind ?_ (fun _ => ?_))
   | exact A2 _ _ _ _ _ _
   | exact spec_GridOk.mono _ _ _ _
   | exact spec_l1Frac.mono _ _ _
   | exact spec_l1Low.mono _ _ _
   | exact LeO.none _
   | refine LeO.ite ?_ ?_
   | refine LeO.bind ?_ (fun _ => ?_)
theorem spec_AtGrid.mono : ∀ a0 a1 a2 a3 a4 k, LeO (spec_AtGrid.f k a0 a1 a2 a3 a4) (spec_AtGrid.f (k + 1) a0 a1 a2 a3 a4) := by
 intro a0 a1 a2 a3 a4 k
 have A2 := spec_AtGrid.mono_l k
 unfold spec_AtGrid.f
 repeat' first
   | (with_reducible exact A2 _ _ _ _ _ _)
   | (with_reducible exact spec_GridOk.mono _ _ _ _)
   | (with_reducible exact spec_l1Frac.mono _ _ _)
   | (with_reducible exact spec_l1Low.mono _ _ _)
   | (with_reducible exact LeO.refl _)
   | (with_reducible exact LeO.none _)
   | (with_reducible refine LeO.ite ?_ ?_)
   | (with_reducible refine LeO.bind ?_ (fun _ => ?_))
   | exact A2 _ _ _ _ _ _
   | exact spec_GridOk.mono _ _ _ _
   | exact spec_l1Frac.mono _ _ _
   | exact spec_l1Low.mono _ _ _
   | exact LeO.none _
   | refine LeO.ite ?_ ?_
   | refine LeO.bind ?_ (fun _ => ?_)
def spec_AtGrid.T1 : Bool × List (List Nat × List Nat) := (true, [([], []), ([0], [0]), ([1], [1]), ([2, 1], [2]), ([3], [3]), ([3], [3]), ([5, 3], [3, 5]), ([6, 3], [3, 6]), ([7, 3], [3, 7]), ([3], [3]), ([9, 3], [3, 9]), ([3], [3]), ([11, 3], [3, 11]), ([12, 3], [3, 12]), ([13, 3], [3, 13]), ([10, 14, 3], [3, 10, 14]), ([15, 3], [3, 15]), ([4, 8, 16, 3, 3], [3, 4, 8, 16]), ([17, 3], [3, 17]), ([3, 18], [3, 18]), ([19, 17], [19]), ([20], [20]), ([20], [20]), ([22, 20], [20, 22]), ([23, 20], [20, 23]), ([24, 20], [20, 24]), ([20], [20]), ([26, 20], [20, 26]), ([20], [20]), ([28, 20], [20, 28]), ([29, 20], [20, 29]), ([30, 20], [20, 30]), ([27, 31, 20], [20, 27, 31]), ([32, 20], [20, 32]), ([21, 25, 33, 20, 20], [20, 21, 25, 33]), ([34, 20], [20, 34]), ([20, 35], [20, 35])])
def spec_AtGrid.B1 : List Nat := [0, 1, 3, 7, 15, 15, 47, 111, 239, 15, 527, 15, 2063, 6159, 14351, 32271, 65039, 131071, 262143, 524287, 1048575, 2097151, 2097151, 6291455, 14680063, 31457279, 2097151, 69206015, 2097151, 270532607, 807403519, 1881145343, 4229955583, 8524922879, 17179869183, 34359738367, 68719476735]
theorem spec_AtGrid.tab1 : rtab .any (opsOf Try.f43 1) = spec_AtGrid.T1 := by kernel_rfl
theorem spec_AtGrid.bits1 : waitsOk spec_AtGrid.T1.2 spec_AtGrid.B1 = true := by kernel_rfl
def spec_AtGrid.T3 : Bool × List (List Nat × List Nat) := (true, [([], []), ([0], [0]), ([], []), ([1, 2], [1, 2]), ([], []), ([4], [4]), ([], []), ([5, 6, 3], [5, 6]), ([3, 7, 0, 1, 2, 3], [3]), ([7, 8, 0, 1, 2, 3, 4, 5, 6, 7, 8], [7])])
def spec_AtGrid.B3 : List Nat := [0, 1, 0, 7, 0, 16, 0, 127, 255, 511]
theorem spec_AtGrid.tab3 : rtab .any (opsOf Try.f43 3) = spec_AtGrid.T3 := by kernel_rfl
theorem spec_AtGrid.bits3 : waitsOk spec_AtGrid.T3.2 spec_AtGrid.B3 = true := by kernel_rfl
def spec_AtGrid.T4 : Bool × List (List Nat × List Nat) := (true, [([], []), ([0], [0]), ([], []), ([2], [2]), ([1, 3], [1, 3]), ([4], [4]), ([], []), ([6], [6]), ([], []), ([7, 8], [7, 8]), ([9], [9]), ([5, 10], [5, 10]), ([], []), ([12], [12]), ([], []), ([14], [14]), ([13, 15], [13, 15]), ([16], [16]), ([], []), ([18], [18]), ([], []), ([19, 20], [19, 20]), ([21], [21]), ([17, 22], [17, 22]), ([11, 0, 1, 2, 3, 4, 5, 6, 7, 8, 9, 10, 11], [11]), ([23, 24, 0, 1, 2, 3, 4, 5, 6, 7, 8, 9, 10, 11, 12, 13, 14, 15, 16, 17, 18, 19, 20, 21, 22, 23, 24], [23])])
def spec_AtGrid.B4 : List Nat := [0, 1, 0, 4, 15, 31, 0, 64, 0, 448, 960, 2047, 0, 4096, 0, 16384, 61440, 126976, 0, 262144, 0, 1835008, 3932160, 8384512, 4095, 33554431]
theorem spec_AtGrid.tab4 : rtab .any (opsOf Try.f43 4) = spec_AtGrid.T4 := by kernel_rfl
theorem spec_AtGrid.bits4 : waitsOk spec_AtGrid.T4.2 spec_AtGrid.B4 = true := by kernel_rfl
def spec_AtGrid.T5 : Bool × List (List Nat × List Nat) := (true, [([], []), ([0], [0]), ([], []), ([1, 2], [1, 2]), ([3], [3]), ([], []), ([4, 5], [4, 5]), ([6], [6]), ([], []), ([7, 8], [7, 8]), ([], []), ([10], [10]), ([], []), ([11, 12], [11, 12]), ([13], [13]), ([], []), ([15], [15]), ([14, 16], [14, 16]), ([17], [17]), ([], []), ([19], [19]), ([], []), ([20, 21], [20, 21]), ([22], [22]), ([], []), ([23, 24], [23, 24]), ([25], [25]), ([18, 26], [18, 26]), ([], []), ([], []), ([29], [29]), ([], []), ([30, 31], [30, 31]), ([32], [32]), ([28, 33], [28, 33]), ([27, 34], [27, 34]), ([9, 35], [9, 35]), ([36, 0, 1, 2, 3, 4, 5, 6, 7, 8, 9, 10, 11, 12, 13, 14, 15, 16, 17, 18, 19, 20, 21, 22, 23, 24, 25, 26, 27, 28, 29, 30, 31, 32, 33, 34, 35, 36], [36])])
def spec_AtGrid.B5 : List Nat := [0, 1, 0, 7, 15, 0, 63, 127, 0, 511, 0, 1024, 0, 7168, 15360, 0, 32768, 130048, 261120, 0, 524288, 0, 3670016, 7864320, 0, 33030144, 66584576, 134216704, 0, 0, 536870912, 0, 3758096384, 8053063680, 16911433728, 34359737344, 68719476735, 137438953471]
theorem spec_AtGrid.tab5 : rtab .any (opsOf Try.f43 5) = spec_AtGrid.T5 := by kernel_rfl
theorem spec_AtGrid.bits5 : waitsOk spec_AtGrid.T5.2 spec_AtGrid.B5 = true := by kernel_rfl
def spec_AtGrid.T6 : Bool × List (List Nat × List Nat) := (true, [([], []), ([0], [0]), ([], []), ([2], [2]), ([1, 3], [1, 3]), ([4], [4]), ([], []), ([5, 6], [5, 6]), ([7], [7]), ([], []), ([8, 9], [8, 9]), ([], []), ([11], [11]), ([], []), ([13], [13]), ([12, 14], [12, 14]), ([15], [15]), ([], []), ([17], [17]), ([16, 18], [16, 18]), ([19], [19]), ([], []), ([21], [21]), ([], []), ([23], [23]), ([22, 24], [22, 24]), ([25], [25]), ([], []), ([26, 27], [26, 27]), ([28], [28]), ([20, 29], [20, 29]), ([], []), ([], []), ([32], [32]), ([], []), ([33, 34], [33, 34]), ([35], [35]), ([31, 36], [31, 36]), ([30, 37], [30, 37]), ([10, 38], [10, 38]), ([39, 0, 1, 2, 3, 4, 5, 6, 7, 8, 9, 10, 11, 12, 13, 14, 15, 16, 17, 18, 19, 20, 21, 22, 23, 24, 25, 26, 27, 28, 29, 30, 31, 32, 33, 34, 35, 36, 37, 38, 39], [39])])
def spec_AtGrid.B6 : List Nat := [0, 1, 0, 4, 15, 31, 0, 127, 255, 0, 1023, 0, 2048, 0, 8192, 30720, 63488, 0, 131072, 522240, 1046528, 0, 2097152, 0, 8388608, 31457280, 65011712, 0, 266338304, 534773760, 1073739776, 0, 0, 4294967296, 0, 30064771072, 64424509440, 135291469824, 274877904896, 549755813887, 1099511627775]
theorem spec_AtGrid.tab6 : rtab .any (opsOf Try.f43 6) = spec_AtGrid.T6 := by kernel_rfl
theorem spec_AtGrid.bits6 : waitsOk spec_AtGrid.T6.2 spec_AtGrid.B6 = true := by kernel_rfl
set_option maxHeartbeats 8000000 in
set_option maxRecDepth 100000 in
theorem spec_AtGrid.calls (k : Nat) (A0_0 : Option Addr) (c0_0 : Nat) (l0_0 : List Int) (A0_1 : Option Addr) (c0_1 : Nat) (l0_1 : List Int) (A0_2 : Option Addr) (c0_2 : Nat) (l0_2 : List (List Int)) (a1 : Int) (a2 : Int) (r1 : Int) (r2 : Int) (r3 : Bool) (w : World) (hr0_0 : Kd.C (Kd.int .i64) w A0_0 l0_0.length l0_0) (hc0_0 : l0_0.length ≤ c0_0) (hr0_1 : Kd.C (Kd.int .i64) w A0_1 l0_1.length l0_1) (hc0_1 : l0_1.length ≤ c0_1) (hr0_2 : Kd.C (Kd.slice 3 (Kd.int .i64)) w A0_2 l0_2.length l0_2) (hc0_2 : l0_2.length ≤ c0_2) (h : spec_AtGrid.f k l0_0 l0_1 l0_2 a1 a2 = some (r1, r2, r3)) :
  Calls Try.prog 43 #[.agg #[.slice A0_0 l0_0.length c0_0, .slice A0_1 l0_1.length c0_1, .slice A0_2 l0_2.length c0_2], .int .i64 a1, .int .i64 a2] w fun e w' => e = .returned (.tuple #[.agg #[.int .i64 r1, .int .i64 r2], .bool r3]) ∧ Below w.heap.size w w' := by
 have O7 := Try.underlying75
 have O8 := Try.underlying48
 have c5 := mk_ hr0_0; have m1 := mk_ hc0_0; clear hr0_0 hc0_0; have d5 := mk_ hr0_1; have m2 := mk_ hc0_1; clear hr0_1 hc0_1; have d6 := mk_ hr0_2; have o3 := mk_ hc0_2; clear hr0_2 hc0_2; have HB := mk_ (Below.refl w.heap.size w)
 have H : ((spec_GridOk.f k l0_0 l0_1 l0_2).bind fun o2 => (if o2 = true then (if 0 < (l0_0.length : Int) then (if 0 ≤ (wrap64 ((l0_0.length : Int) - 1)) then (if (wrap64 ((l0_0.length : Int) - 1)) < (l0_0.length : Int) then ((spec_l1In.f a1 (rd l0_0 0) (rd l0_0 (wrap64 ((l0_0.length : Int) - 1)))).bind fun h8 => (if h8 = true then (if 0 < (l0_1.length : Int) then (if 0 ≤ (wrap64 ((l0_1.length : Int) - 1)) then (if (wrap64 ((l0_1.length : Int) - 1)) < (l0_1.length : Int) then ((spec_l1In.f a2 (rd l0_1 0) (rd l0_1 (wrap64 ((l0_1.length : Int) - 1)))).bind fun c1 => (spec_AtGrid.j0 k a1 a2 (!c1) l0_0 l0_1 l0_2)) else (none)) else (none)) else (none)) else (spec_AtGrid.j0 k a1 a2 true l0_0 l0_1 l0_2))) else (none)) else (none)) else (none)) else (spec_AtGrid.j0 k a1 a2 true l0_0 l0_1 l0_2))) = some (r1, r2, r3) := h
 clear h; have H4 := mk_ H; clear H
 go_enter Try.func43, Try.ntmps43
 go_upto_region 1 with (first | ((with_reducible refine gd_ 3 rfl ?_); (try (refine gate_guard (by rfl) ?_; dsimp only)); refine box_event ?hg (N := 3) ?hd (cs := #[.slice A0_0 l0_0.length c0_0, .slice A0_1 l0_1.length c0_1, .slice A0_2 l0_2.length c0_2]) (t := 75) ?hr ?_; (case hd => rfl); (case hg => rfl); (case hr => exact hr_); intro b4 hg w5 hbox hb; have a7 := mk_ (hbox); have A3 := gb_ hg HB; replace HB := bp_ HB hb; have M0 := A3; clear hb hbox hg) | ((with_reducible refine gd_ 6 rfl ?_); (try (refine gate_guard (by rfl) ?_; dsimp only)); refine box_event ?hg (N := 6) ?hd (cs := #[.int .i64 0, .int .i64 0]) (t := 48) ?hr ?_; (case hd => rfl); (case hg => rfl); (case hr => exact hr_); intro j7 hg w6 hbox hb; have a8 := mk_ (hbox); have A4 := gb_ hg HB; replace HB := bp_ HB hb; have o6 := A4; have h5 := nb_ hg a7; replace a7 := bl_ a7 hb; have j3 := ns_ h5; clear hb hbox hg))
 (try simp only [Act.put, List.setIfInBounds_toArray, List.set_cons_zero, List.set_cons_succ])
 go_cut [50] (fun v50 wc => ∃ (kq : Nat) (m3 : Bool), v50 = .bool m3 ∧ Aside0 (spec_AtGrid.j0 kq a1 a2 m3 l0_0 l0_1 l0_2 = some (r1, r2, r3)) ∧ Aside0 (kq ≤ k) ∧ Aside0 (wc.heap[b4]? = some (.cells #[(.slice A0_0 l0_0.length c0_0), (.slice A0_1 l0_1.length c0_1), (.slice A0_2 l0_2.length c0_2)] 75 (0, 0))) ∧ Aside0 (wc.heap[j7]? = some (.cells #[.int .i64 0, .int .i64 0] 48 (0, 0))) ∧ Aside0 (Below w.heap.size w wc))
 case first =>
  have H := H4.out; clear H4; replace H := Option.bind_eq_some_iff.mp H; obtain ⟨o2, M1, H⟩ := H
  replace H : (if o2 = true then (if 0 < (l0_0.length : Int) then (if 0 ≤ (wrap64 ((l0_0.length : Int) - 1)) then (if (wrap64 ((l0_0.length : Int) - 1)) < (l0_0.length : Int) then ((spec_l1In.f a1 (rd l0_0 0) (rd l0_0 (wrap64 ((l0_0.length : Int) - 1)))).bind fun h8 => (if h8 = true then (if 0 < (l0_1.length : Int) then (if 0 ≤ (wrap64 ((l0_1.length : Int) - 1)) then (if (wrap64 ((l0_1.length : Int) - 1)) < (l0_1.length : Int) then ((spec_l1In.f a2 (rd l0_1 0) (rd l0_1 (wrap64 ((l0_1.length : Int) - 1)))).bind fun c1 => (spec_AtGrid.j0 k a1 a2 (!c1) l0_0 l0_1 l0_2)) else (none)) else (none)) else (none)) else (spec_AtGrid.j0 k a1 a2 true l0_0 l0_1 l0_2))) else (none)) else (none)) else (none)) else (spec_AtGrid.j0 k a1 a2 true l0_0 l0_1 l0_2)) = some (r1, r2, r3) := H
  have A7 := mk_ M1; clear M1; by_cases c8 : o2 = true
  ·subst c8
   have H1 : (if 0 < (l0_0.length : Int) then (if 0 ≤ (wrap64 ((l0_0.length : Int) - 1)) then (if (wrap64 ((l0_0.length : Int) - 1)) < (l0_0.length : Int) then ((spec_l1In.f a1 (rd l0_0 0) (rd l0_0 (wrap64 ((l0_0.length : Int) - 1)))).bind fun h8 => (if h8 = true then (if 0 < (l0_1.length : Int) then (if 0 ≤ (wrap64 ((l0_1.length : Int) - 1)) then (if (wrap64 ((l0_1.length : Int) - 1)) < (l0_1.length : Int) then ((spec_l1In.f a2 (rd l0_1 0) (rd l0_1 (wrap64 ((l0_1.length : Int) - 1)))).bind fun c1 => (spec_AtGrid.j0 k a1 a2 (!c1) l0_0 l0_1 l0_2)) else (none)) else (none)) else (none)) else (spec_AtGrid.j0 k a1 a2 true l0_0 l0_1 l0_2))) else (none)) else (none)) else (none)) = some (r1, r2, r3) := by rw [if_pos rfl] at H; exact H
   clear H
   have H := H1
   clear H1; by_cases c9 : 0 < (l0_0.length : Int)
   ·rw [if_pos c9] at H; have A5 : decide (0 < (l0_0.length : Int)) = true := decide_eq_true c9; have O9 : decide (0 < l0_0.length) = true := decide_eq_true (by omega); clear c9
    (first | rw [A5] | (simp only [i64_w, i32_w]; rw [A5]) | skip)
    obtain ⟨b7, j4⟩ : ∃ j_ : Int, (wrap64 ((l0_0.length : Int) - 1)) = j_ := ⟨_, rfl⟩
    replace H : (if 0 ≤ (b7) then (if (b7) < (l0_0.length : Int) then ((spec_l1In.f a1 (rd l0_0 0) (rd l0_0 (b7))).bind fun h8 => (if h8 = true then (if 0 < (l0_1.length : Int) then (if 0 ≤ (wrap64 ((l0_1.length : Int) - 1)) then (if (wrap64 ((l0_1.length : Int) - 1)) < (l0_1.length : Int) then ((spec_l1In.f a2 (rd l0_1 0) (rd l0_1 (wrap64 ((l0_1.length : Int) - 1)))).bind fun c1 => (spec_AtGrid.j0 k a1 a2 (!c1) l0_0 l0_1 l0_2)) else (none)) else (none)) else (none)) else (spec_AtGrid.j0 k a1 a2 true l0_0 l0_1 l0_2))) else (none)) else (none)) = some (r1, r2, r3) := by first | (rw [j4] at H; exact H) | (simp only [j4] at H ⊢; exact H)
    (try rw [j4] at A7)
    have hji10w : (IntKind.i64.wrap ((l0_0.length : Int) - 1)) = b7 := (i64_w _).trans j4
    by_cases D2 : 0 ≤ (b7)
    ·rw [if_pos D2] at H; have M2 : decide (0 ≤ (b7)) = true := decide_eq_true D2; clear D2; by_cases D3 : (b7) < (l0_0.length : Int)
     ·rw [if_pos D3] at H; have M3 : decide ((b7) < (l0_0.length : Int)) = true := decide_eq_true D3; clear D3; replace H := Option.bind_eq_some_iff.mp H; obtain ⟨h8, A6, H⟩ := H
      replace H : (if h8 = true then (if 0 < (l0_1.length : Int) then (if 0 ≤ (wrap64 ((l0_1.length : Int) - 1)) then (if (wrap64 ((l0_1.length : Int) - 1)) < (l0_1.length : Int) then ((spec_l1In.f a2 (rd l0_1 0) (rd l0_1 (wrap64 ((l0_1.length : Int) - 1)))).bind fun c1 => (spec_AtGrid.j0 k a1 a2 (!c1) l0_0 l0_1 l0_2)) else (none)) else (none)) else (none)) else (spec_AtGrid.j0 k a1 a2 true l0_0 l0_1 l0_2)) = some (r1, r2, r3) := H
      have H5 := mk_ A6; clear A6; by_cases D4 : h8 = true
      ·subst D4
       have H1 : (if 0 < (l0_1.length : Int) then (if 0 ≤ (wrap64 ((l0_1.length : Int) - 1)) then (if (wrap64 ((l0_1.length : Int) - 1)) < (l0_1.length : Int) then ((spec_l1In.f a2 (rd l0_1 0) (rd l0_1 (wrap64 ((l0_1.length : Int) - 1)))).bind fun c1 => (spec_AtGrid.j0 k a1 a2 (!c1) l0_0 l0_1 l0_2)) else (none)) else (none)) else (none)) = some (r1, r2, r3) := by rw [if_pos rfl] at H; exact H
       clear H
       have H := H1
       clear H1; by_cases D5 : 0 < (l0_1.length : Int)
       ·rw [if_pos D5] at H; have M4 : decide (0 < (l0_1.length : Int)) = true := decide_eq_true D5; have M5 : decide (0 < l0_1.length) = true := decide_eq_true (by omega); clear D5
        obtain ⟨d4, j5⟩ : ∃ j_ : Int, (wrap64 ((l0_1.length : Int) - 1)) = j_ := ⟨_, rfl⟩
        replace H : (if 0 ≤ (d4) then (if (d4) < (l0_1.length : Int) then ((spec_l1In.f a2 (rd l0_1 0) (rd l0_1 (d4))).bind fun c1 => (spec_AtGrid.j0 k a1 a2 (!c1) l0_0 l0_1 l0_2)) else (none)) else (none)) = some (r1, r2, r3) := by first | (rw [j5] at H; exact H) | (simp only [j5] at H ⊢; exact H)
        (try rw [j5] at A7)
        (try rw [j5] at H5)
        have hji16w : (IntKind.i64.wrap ((l0_1.length : Int) - 1)) = d4 := (i64_w _).trans j5
        by_cases D6 : 0 ≤ (d4)
        ·rw [if_pos D6] at H; have M6 : decide (0 ≤ (d4)) = true := decide_eq_true D6; clear D6; by_cases D7 : (d4) < (l0_1.length : Int)
         ·rw [if_pos D7] at H; have M7 : decide ((d4) < (l0_1.length : Int)) = true := decide_eq_true D7; clear D7; replace H := Option.bind_eq_some_iff.mp H; obtain ⟨c1, A8, H⟩ := H
          replace H : (spec_AtGrid.j0 k a1 a2 (!c1) l0_0 l0_1 l0_2) = some (r1, r2, r3) := H
          have P0 := mk_ A8; clear A8
          have H' := mk_ H
          clear H
          try go_wp2
          replace a7 := dB_ a7; replace a8 := dB_ a8; replace HB := dH_ HB
          have l5 : 0 ≤ (0 : Int) := (by omega)
          have l6 : 0 < (l0_0.length : Int) := od_
          obtain ⟨c6, p0, b2⟩ := Kd.at_int c5.out 0 l5 l6
          have hw129_0 := b2
          (try rw [show ((0 : Int)).toNat = 0 from rfl] at hw129_0)
          (try rw [show 0 * 1 = 0 from rfl] at hw129_0)
          (try rw [Addr.add_zero'] at hw129_0)
          cases p0
          have qi129 : (0 < l0_0.length) = True := eq_true (by omega)
          (try rw [show ((0 : Int)).toNat = 0 from rfl] at b2)
          (try rw [Addr.add_zero'] at b2)
          replace b2 := (HB.out.cell (World.block_lt_of_cell? w _ b2)).trans b2
          replace l5 := eq_true l5; replace l6 := eq_true l6
          have l7 : 0 ≤ ((b7) : Int) := od_
          have l8 : (b7) < (l0_0.length : Int) := od_
          obtain ⟨o4, p1, b5⟩ := Kd.at_int c5.out (b7) l7 l8
          have hw130_0 := b5
          obtain rfl : c6 = o4 := (by injection p1)
          replace b5 := (HB.out.cell (World.block_lt_of_cell? w _ b5)).trans b5
          replace l7 := eq_true l7; replace l8 := eq_true l8
          have p2 : 0 ≤ (0 : Int) := (by omega)
          have p3 : 0 < (l0_1.length : Int) := od_
          obtain ⟨j8, H6, c2⟩ := Kd.at_int d5.out 0 p2 p3
          have hw132_0 := c2
          (try rw [show ((0 : Int)).toNat = 0 from rfl] at hw132_0)
          (try rw [show 0 * 1 = 0 from rfl] at hw132_0)
          (try rw [Addr.add_zero'] at hw132_0)
          cases H6
          have qi132 : (0 < l0_1.length) = True := eq_true (by omega)
          (try rw [show ((0 : Int)).toNat = 0 from rfl] at c2)
          (try rw [Addr.add_zero'] at c2)
          replace c2 := (HB.out.cell (World.block_lt_of_cell? w _ c2)).trans c2
          replace p2 := eq_true p2; replace p3 := eq_true p3
          have p4 : 0 ≤ ((d4) : Int) := od_
          have p5 : (d4) < (l0_1.length : Int) := od_
          obtain ⟨A9, H7, d7⟩ := Kd.at_int d5.out (d4) p4 p5
          have hw133_0 := d7
          obtain rfl : j8 = A9 := (by injection H7)
          replace d7 := (HB.out.cell (World.block_lt_of_cell? w _ d7)).trans d7
          replace p4 := eq_true p4; replace p5 := eq_true p5
          refine start_ (n := 37) (S := fun w' => w'.cell? ⟨b4, 0, none⟩ = some (.slice (some c6) l0_0.length c0_0) ∧ w'.cell? ⟨b4, 1, none⟩ = some (.slice (some j8) l0_1.length c0_1) ∧ w'.cell? ⟨b4, 2, none⟩ = some (.slice A0_2 l0_2.length c0_2) ∧ w'.cell? c6 = some (.int .i64 (rd l0_0 0)) ∧ w'.cell? (c6.add ((b7)).toNat) = some (.int .i64 (rd l0_0 (b7))) ∧ w'.cell? j8 = some (.int .i64 (rd l0_1 0)) ∧ w'.cell? (j8.add ((d4)).toNat) = some (.int .i64 (rd l0_1 (d4)))) (ds := []) (bs_ 37 0) (by kernel_rfl) rfl (by kernel_rfl) ⟨bc0_ a7, bc1_ a7, bc2_ a7, ((HB.out.cell (World.block_lt_of_cell? w _ hw129_0)).trans hw129_0), ((HB.out.cell (World.block_lt_of_cell? w _ hw130_0)).trans hw130_0), ((HB.out.cell (World.block_lt_of_cell? w _ hw132_0)).trans hw132_0), ((HB.out.cell (World.block_lt_of_cell? w _ hw133_0)).trans hw133_0)⟩ (fun hHeld => ?_); refine with_tabW spec_AtGrid.tab1 spec_AtGrid.bits1 (fun HT_ HW_ => ?_)
          generalize w6.drew = P4 at a7 a8 HB b2 b5 c2 d7 hHeld ⊢
          refine tk_ HT_ HW_ 0 14 (bs_ 37 1) hHeld ?_
          refine one_ (i := 1) (N := some 15) (bs_ 37 3) rfl rfl (one_of HT_.out (by kernel_rfl)) (by decide) (fun K hK => ?_)
          refine gs_ Try.func96 #[.agg #[.slice (some c6) l0_0.length c0_0, .slice (some j8) l0_1.length c0_1, .slice A0_2 l0_2.length c0_2]] ?_
          with_reducible refine (spec_GridOk.calls k _ _ l0_0 _ _ l0_1 _ _ l0_2 true _ ?d8 ?d9 ?j9 ?l1 ?l2 ?l3 A7.out).mono ?_
          (case d8 => exact cw_ (Kd.C_below c5.out HB.out))
          (case d9 => exact m1.out)
          (case j9 => exact cw_ (Kd.C_below d5.out HB.out))
          (case l1 => exact m2.out)
          (case l2 => exact cw_ (Kd.C_below d6.out HB.out))
          (case l3 => exact o3.out)
          rintro e P5 ⟨rfl, hb⟩
          refine ⟨_, rfl, ?_⟩
          replace a7 := bk_ a7 hb; replace a8 := bk_ a8 hb; replace HB := hk_ HB hb
          (try clear hb); (try clear H8); (try clear hk); (try clear hi)
          refine hK.out _ _ ⟨bc0_ a7, bc1_ a7, bc2_ a7, ((HB.out.cell (World.block_lt_of_cell? w _ hw129_0)).trans hw129_0), ((HB.out.cell (World.block_lt_of_cell? w _ hw130_0)).trans hw130_0), ((HB.out.cell (World.block_lt_of_cell? w _ hw132_0)).trans hw132_0), ((HB.out.cell (World.block_lt_of_cell? w _ hw133_0)).trans hw133_0)⟩ (fun hHeld => ?_)
          clear hK K; refine nm_ ?_; refine pu_ HT_ 2 16 (bs_ 37 7) ?_; refine pu_ HT_ 3 17 (bs_ 37 15) ?_; refine pu_ HT_ 4 18 (bs_ 37 31) ?_; refine pu_ HT_ 5 19 (bs_ 37 63) ?_; refine pu_ HT_ 9 23 (bs_ 37 575) ?_; refine pu_ HT_ 11 25 (bs_ 37 2623) ?_; refine tk_ HT_ HW_ 6 20 (bs_ 37 2687) hHeld ?_; refine pu_ HT_ 7 21 (bs_ 37 2815) ?_; refine tk_ HT_ HW_ 8 22 (bs_ 37 3071) hHeld ?_; refine tk_ HT_ HW_ 10 24 (bs_ 37 4095) hHeld ?_; refine tk_ HT_ HW_ 12 26 (bs_ 37 8191) hHeld ?_; refine pu_ HT_ 13 27 (bs_ 37 16383) ?_; refine pu_ HT_ 14 28 (bs_ 37 32767) ?_; refine pu_ HT_ 15 29 (bs_ 37 65535) ?_; refine tk_ HT_ HW_ 16 30 (bs_ 37 131071) hHeld ?_
          refine one_ (i := 17) (N := some 31) (bs_ 37 262143) rfl rfl (one_of HT_.out (by kernel_rfl)) (by decide) (fun K hK => ?_)
          refine goes_ Try.func70 (by kernel_rfl) rfl #[.int .i64 a1, .int .i64 (rd l0_0 0), .int .i64 (rd l0_0 (b7))] (by rfl) rfl rfl (by (try simp only [List.map_toArray, List.map_cons, List.map_nil]); first | done | (simp only [j4]; rfl) | rfl | (simp only [List.length_drop, List.length_take]; rfl)) ?_
          with_reducible refine (spec_l1In.calls a1 (rd l0_0 0) (rd l0_0 (b7)) true _ H5.out).mono ?_
          rintro e w' ⟨rfl, ⟨nd, rfl⟩⟩
          refine ⟨_, rfl, ?_⟩
          refine hK.out _ _ ⟨bc0_ a7, bc1_ a7, bc2_ a7, ((HB.out.cell (World.block_lt_of_cell? w _ hw129_0)).trans hw129_0), ((HB.out.cell (World.block_lt_of_cell? w _ hw130_0)).trans hw130_0), ((HB.out.cell (World.block_lt_of_cell? w _ hw132_0)).trans hw132_0), ((HB.out.cell (World.block_lt_of_cell? w _ hw133_0)).trans hw133_0)⟩ (fun hHeld => ?_)
          clear hK K; refine nm_ ?_; refine pu_ HT_ 18 32 (bs_ 37 524287) ?_; refine pu_ HT_ 19 33 (bs_ 37 1048575) ?_; refine pu_ HT_ 20 34 (bs_ 37 2097151) ?_; refine pu_ HT_ 21 35 (bs_ 37 4194303) ?_; refine pu_ HT_ 22 36 (bs_ 37 8388607) ?_; refine pu_ HT_ 26 40 (bs_ 37 75497471) ?_; refine pu_ HT_ 28 42 (bs_ 37 343932927) ?_; refine tk_ HT_ HW_ 23 37 (bs_ 37 352321535) hHeld ?_; refine pu_ HT_ 24 38 (bs_ 37 369098751) ?_; refine tk_ HT_ HW_ 25 39 (bs_ 37 402653183) hHeld ?_; refine tk_ HT_ HW_ 27 41 (bs_ 37 536870911) hHeld ?_; refine tk_ HT_ HW_ 29 43 (bs_ 37 1073741823) hHeld ?_; refine pu_ HT_ 30 44 (bs_ 37 2147483647) ?_; refine pu_ HT_ 31 45 (bs_ 37 4294967295) ?_; refine pu_ HT_ 32 46 (bs_ 37 8589934591) ?_; refine tk_ HT_ HW_ 33 47 (bs_ 37 17179869183) hHeld ?_
          refine one_ (i := 34) (N := some 48) (bs_ 37 34359738367) rfl rfl (one_of HT_.out (by kernel_rfl)) (by decide) (fun K hK => ?_)
          refine goes_ Try.func70 (by kernel_rfl) rfl #[.int .i64 a2, .int .i64 (rd l0_1 0), .int .i64 (rd l0_1 (d4))] (by rfl) rfl rfl (by (try simp only [List.map_toArray, List.map_cons, List.map_nil]); first | done | (simp only [j5]; rfl) | rfl | (simp only [List.length_drop, List.length_take]; rfl)) ?_
          with_reducible refine (spec_l1In.calls a2 (rd l0_1 0) (rd l0_1 (d4)) c1 _ P0.out).mono ?_
          rintro e w' ⟨rfl, ⟨nd, rfl⟩⟩
          refine ⟨_, rfl, ?_⟩
          refine hK.out _ _ ⟨bc0_ a7, bc1_ a7, bc2_ a7, ((HB.out.cell (World.block_lt_of_cell? w _ hw129_0)).trans hw129_0), ((HB.out.cell (World.block_lt_of_cell? w _ hw130_0)).trans hw130_0), ((HB.out.cell (World.block_lt_of_cell? w _ hw132_0)).trans hw132_0), ((HB.out.cell (World.block_lt_of_cell? w _ hw133_0)).trans hw133_0)⟩ (fun hHeld => ?_)
          clear hK K; refine nm_ ?_; refine pu_ HT_ 35 49 (bs_ 37 68719476735) ?_; refine pu_ HT_ 36 50 (bs_ 37 137438953471) ?_
          refine done_ (done_of HT_.out (by kernel_rfl)) ?_
          try go_wp2
          go_meet
          case rel => exact ⟨_, (!c1), rf_, H', ⟨by first | omega | exact Nat.le_refl _⟩, bw_ a7, bw_ a8, ⟨hw_ HB⟩⟩
         ·rw [if_neg D7] at H
          exact absurd H (by simp)
        ·rw [if_neg D6] at H
         exact absurd H (by simp)
       ·rw [if_neg D5] at H
        exact absurd H (by simp)
      ·replace D4 := Bool.eq_false_iff.mpr D4; subst D4
       have H1 : (spec_AtGrid.j0 k a1 a2 true l0_0 l0_1 l0_2) = some (r1, r2, r3) := by rw [if_neg (show ¬ (false = true) by decide)] at H; exact H
       clear H
       have H := H1
       clear H1
       have H' := mk_ H
       clear H
       try go_wp2
       replace a7 := dB_ a7; replace a8 := dB_ a8; replace HB := dH_ HB
       have l5 : 0 ≤ (0 : Int) := (by omega)
       have l6 : 0 < (l0_0.length : Int) := od_
       obtain ⟨c6, p0, b2⟩ := Kd.at_int c5.out 0 l5 l6
       have hw129_0 := b2
       (try rw [show ((0 : Int)).toNat = 0 from rfl] at hw129_0)
       (try rw [show 0 * 1 = 0 from rfl] at hw129_0)
       (try rw [Addr.add_zero'] at hw129_0)
       cases p0
       have qi129 : (0 < l0_0.length) = True := eq_true (by omega)
       (try rw [show ((0 : Int)).toNat = 0 from rfl] at b2)
       (try rw [Addr.add_zero'] at b2)
       replace b2 := (HB.out.cell (World.block_lt_of_cell? w _ b2)).trans b2
       replace l5 := eq_true l5; replace l6 := eq_true l6
       have l7 : 0 ≤ ((b7) : Int) := od_
       have l8 : (b7) < (l0_0.length : Int) := od_
       obtain ⟨o4, p1, b5⟩ := Kd.at_int c5.out (b7) l7 l8
       have hw130_0 := b5
       obtain rfl : c6 = o4 := (by injection p1)
       replace b5 := (HB.out.cell (World.block_lt_of_cell? w _ b5)).trans b5
       replace l7 := eq_true l7; replace l8 := eq_true l8
       refine start_ (n := 37) (S := fun w' => w'.cell? ⟨b4, 0, none⟩ = some (.slice (some c6) l0_0.length c0_0) ∧ w'.cell? ⟨b4, 1, none⟩ = some (.slice A0_1 l0_1.length c0_1) ∧ w'.cell? ⟨b4, 2, none⟩ = some (.slice A0_2 l0_2.length c0_2) ∧ w'.cell? c6 = some (.int .i64 (rd l0_0 0)) ∧ w'.cell? (c6.add ((b7)).toNat) = some (.int .i64 (rd l0_0 (b7)))) (ds := []) (bs_ 37 0) (by kernel_rfl) rfl (by kernel_rfl) ⟨bc0_ a7, bc1_ a7, bc2_ a7, ((HB.out.cell (World.block_lt_of_cell? w _ hw129_0)).trans hw129_0), ((HB.out.cell (World.block_lt_of_cell? w _ hw130_0)).trans hw130_0)⟩ (fun hHeld => ?_); refine with_tabW spec_AtGrid.tab1 spec_AtGrid.bits1 (fun HT_ HW_ => ?_)
       generalize w6.drew = P6 at a7 a8 HB b2 b5 hHeld ⊢
       refine tk_ HT_ HW_ 0 14 (bs_ 37 1) hHeld ?_
       refine one_ (i := 1) (N := some 15) (bs_ 37 3) rfl rfl (one_of HT_.out (by kernel_rfl)) (by decide) (fun K hK => ?_)
       refine gs_ Try.func96 #[.agg #[.slice (some c6) l0_0.length c0_0, .slice A0_1 l0_1.length c0_1, .slice A0_2 l0_2.length c0_2]] ?_
       with_reducible refine (spec_GridOk.calls k _ _ l0_0 _ _ l0_1 _ _ l0_2 true _ ?d8 ?d9 ?j9 ?l1 ?l2 ?l3 A7.out).mono ?_
       (case d8 => exact cw_ (Kd.C_below c5.out HB.out))
       (case d9 => exact m1.out)
       (case j9 => exact cw_ (Kd.C_below d5.out HB.out))
       (case l1 => exact m2.out)
       (case l2 => exact cw_ (Kd.C_below d6.out HB.out))
       (case l3 => exact o3.out)
       rintro e P7 ⟨rfl, hb⟩
       refine ⟨_, rfl, ?_⟩
       replace a7 := bk_ a7 hb; replace a8 := bk_ a8 hb; replace HB := hk_ HB hb
       (try clear hb); (try clear H8); (try clear hk); (try clear hi)
       refine hK.out _ _ ⟨bc0_ a7, bc1_ a7, bc2_ a7, ((HB.out.cell (World.block_lt_of_cell? w _ hw129_0)).trans hw129_0), ((HB.out.cell (World.block_lt_of_cell? w _ hw130_0)).trans hw130_0)⟩ (fun hHeld => ?_)
       clear hK K; refine nm_ ?_; refine pu_ HT_ 2 16 (bs_ 37 7) ?_; refine pu_ HT_ 3 17 (bs_ 37 15) ?_; refine pu_ HT_ 4 18 (bs_ 37 31) ?_; refine pu_ HT_ 5 19 (bs_ 37 63) ?_; refine pu_ HT_ 9 23 (bs_ 37 575) ?_; refine pu_ HT_ 11 25 (bs_ 37 2623) ?_; refine tk_ HT_ HW_ 6 20 (bs_ 37 2687) hHeld ?_; refine pu_ HT_ 7 21 (bs_ 37 2815) ?_; refine tk_ HT_ HW_ 8 22 (bs_ 37 3071) hHeld ?_; refine tk_ HT_ HW_ 10 24 (bs_ 37 4095) hHeld ?_; refine tk_ HT_ HW_ 12 26 (bs_ 37 8191) hHeld ?_; refine pu_ HT_ 13 27 (bs_ 37 16383) ?_; refine pu_ HT_ 14 28 (bs_ 37 32767) ?_; refine pu_ HT_ 15 29 (bs_ 37 65535) ?_; refine tk_ HT_ HW_ 16 30 (bs_ 37 131071) hHeld ?_
       refine one_ (i := 17) (N := some 31) (bs_ 37 262143) rfl rfl (one_of HT_.out (by kernel_rfl)) (by decide) (fun K hK => ?_)
       refine goes_ Try.func70 (by kernel_rfl) rfl #[.int .i64 a1, .int .i64 (rd l0_0 0), .int .i64 (rd l0_0 (b7))] (by rfl) rfl rfl (by (try simp only [List.map_toArray, List.map_cons, List.map_nil]); first | done | (simp only [j4]; rfl) | rfl | (simp only [List.length_drop, List.length_take]; rfl)) ?_
       with_reducible refine (spec_l1In.calls a1 (rd l0_0 0) (rd l0_0 (b7)) false _ H5.out).mono ?_
       rintro e w' ⟨rfl, ⟨nd, rfl⟩⟩
       refine ⟨_, rfl, ?_⟩
       refine hK.out _ _ ⟨bc0_ a7, bc1_ a7, bc2_ a7, ((HB.out.cell (World.block_lt_of_cell? w _ hw129_0)).trans hw129_0), ((HB.out.cell (World.block_lt_of_cell? w _ hw130_0)).trans hw130_0)⟩ (fun hHeld => ?_)
       clear hK K; refine nm_ ?_; refine pu_ HT_ 18 32 (bs_ 37 524287) ?_; refine pu_ HT_ 19 33 (bs_ 37 1048575) ?_; refine pu_ HT_ 20 34 (bs_ 37 2097151) ?_; refine pn_ HT_ 21 35 (bs_ 37 4194303) ?_; refine pn_ HT_ 22 36 (bs_ 37 8388607) ?_; refine pn_ HT_ 23 37 (bs_ 37 16777215) ?_; refine pn_ HT_ 24 38 (bs_ 37 33554431) ?_; refine pn_ HT_ 25 39 (bs_ 37 67108863) ?_; refine pn_ HT_ 26 40 (bs_ 37 134217727) ?_; refine pn_ HT_ 27 41 (bs_ 37 268435455) ?_; refine pn_ HT_ 28 42 (bs_ 37 536870911) ?_; refine pn_ HT_ 29 43 (bs_ 37 1073741823) ?_; refine pn_ HT_ 30 44 (bs_ 37 2147483647) ?_; refine pn_ HT_ 31 45 (bs_ 37 4294967295) ?_; refine pn_ HT_ 32 46 (bs_ 37 8589934591) ?_; refine pn_ HT_ 33 47 (bs_ 37 17179869183) ?_; refine pn_ HT_ 34 48 (bs_ 37 34359738367) ?_; refine pn_ HT_ 35 49 (bs_ 37 68719476735) ?_; refine pu_ HT_ 36 50 (bs_ 37 137438953471) ?_
       refine done_ (done_of HT_.out (by kernel_rfl)) ?_
       try go_wp2
       go_meet
       case rel => exact ⟨_, (true), rf_, H', ⟨by first | omega | exact Nat.le_refl _⟩, bw_ a7, bw_ a8, ⟨hw_ HB⟩⟩
     ·rw [if_neg D3] at H
      exact absurd H (by simp)
    ·rw [if_neg D2] at H
     exact absurd H (by simp)
   ·rw [if_neg c9] at H
    exact absurd H (by simp)
  ·replace c8 := Bool.eq_false_iff.mpr c8; subst c8
   have H1 : (spec_AtGrid.j0 k a1 a2 true l0_0 l0_1 l0_2) = some (r1, r2, r3) := by rw [if_neg (show ¬ (false = true) by decide)] at H; exact H
   clear H
   have H := H1
   clear H1
   have H' := mk_ H
   clear H
   try go_wp2
   replace a7 := dB_ a7; replace a8 := dB_ a8; replace HB := dH_ HB
   refine start_ (n := 37) (S := fun w' => w'.cell? ⟨b4, 0, none⟩ = some (.slice A0_0 l0_0.length c0_0) ∧ w'.cell? ⟨b4, 1, none⟩ = some (.slice A0_1 l0_1.length c0_1) ∧ w'.cell? ⟨b4, 2, none⟩ = some (.slice A0_2 l0_2.length c0_2)) (ds := []) (bs_ 37 0) (by kernel_rfl) rfl (by kernel_rfl) ⟨bc0_ a7, bc1_ a7, bc2_ a7⟩ (fun hHeld => ?_); refine with_tabW spec_AtGrid.tab1 spec_AtGrid.bits1 (fun HT_ HW_ => ?_)
   generalize w6.drew = P8 at a7 a8 HB hHeld ⊢
   refine tk_ HT_ HW_ 0 14 (bs_ 37 1) hHeld ?_
   refine one_ (i := 1) (N := some 15) (bs_ 37 3) rfl rfl (one_of HT_.out (by kernel_rfl)) (by decide) (fun K hK => ?_)
   refine gs_ Try.func96 #[.agg #[.slice A0_0 l0_0.length c0_0, .slice A0_1 l0_1.length c0_1, .slice A0_2 l0_2.length c0_2]] ?_
   with_reducible refine (spec_GridOk.calls k _ _ l0_0 _ _ l0_1 _ _ l0_2 false _ ?d8 ?d9 ?j9 ?l1 ?l2 ?l3 A7.out).mono ?_
   (case d8 => exact cw_ (Kd.C_below c5.out HB.out))
   (case d9 => exact m1.out)
   (case j9 => exact cw_ (Kd.C_below d5.out HB.out))
   (case l1 => exact m2.out)
   (case l2 => exact cw_ (Kd.C_below d6.out HB.out))
   (case l3 => exact o3.out)
   rintro e P9 ⟨rfl, hb⟩
   refine ⟨_, rfl, ?_⟩
   replace a7 := bk_ a7 hb; replace a8 := bk_ a8 hb; replace HB := hk_ HB hb
   (try clear hb); (try clear H8); (try clear hk); (try clear hi)
   refine hK.out _ _ ⟨bc0_ a7, bc1_ a7, bc2_ a7⟩ (fun hHeld => ?_)
   clear hK K; refine nm_ ?_; refine pu_ HT_ 2 16 (bs_ 37 7) ?_; refine pu_ HT_ 3 17 (bs_ 37 15) ?_; refine pn_ HT_ 4 18 (bs_ 37 31) ?_; refine pn_ HT_ 5 19 (bs_ 37 63) ?_; refine pn_ HT_ 6 20 (bs_ 37 127) ?_; refine pn_ HT_ 7 21 (bs_ 37 255) ?_; refine pn_ HT_ 8 22 (bs_ 37 511) ?_; refine pn_ HT_ 9 23 (bs_ 37 1023) ?_; refine pn_ HT_ 10 24 (bs_ 37 2047) ?_; refine pn_ HT_ 11 25 (bs_ 37 4095) ?_; refine pn_ HT_ 12 26 (bs_ 37 8191) ?_; refine pn_ HT_ 13 27 (bs_ 37 16383) ?_; refine pn_ HT_ 14 28 (bs_ 37 32767) ?_; refine pn_ HT_ 15 29 (bs_ 37 65535) ?_; refine pn_ HT_ 16 30 (bs_ 37 131071) ?_; refine pn_ HT_ 17 31 (bs_ 37 262143) ?_; refine pn_ HT_ 18 32 (bs_ 37 524287) ?_; refine pu_ HT_ 19 33 (bs_ 37 1048575) ?_; refine pu_ HT_ 20 34 (bs_ 37 2097151) ?_; refine pn_ HT_ 21 35 (bs_ 37 4194303) ?_; refine pn_ HT_ 22 36 (bs_ 37 8388607) ?_; refine pn_ HT_ 23 37 (bs_ 37 16777215) ?_; refine pn_ HT_ 24 38 (bs_ 37 33554431) ?_; refine pn_ HT_ 25 39 (bs_ 37 67108863) ?_; refine pn_ HT_ 26 40 (bs_ 37 134217727) ?_; refine pn_ HT_ 27 41 (bs_ 37 268435455) ?_; refine pn_ HT_ 28 42 (bs_ 37 536870911) ?_; refine pn_ HT_ 29 43 (bs_ 37 1073741823) ?_; refine pn_ HT_ 30 44 (bs_ 37 2147483647) ?_; refine pn_ HT_ 31 45 (bs_ 37 4294967295) ?_; refine pn_ HT_ 32 46 (bs_ 37 8589934591) ?_; refine pn_ HT_ 33 47 (bs_ 37 17179869183) ?_; refine pn_ HT_ 34 48 (bs_ 37 34359738367) ?_; refine pn_ HT_ 35 49 (bs_ 37 68719476735) ?_; refine pu_ HT_ 36 50 (bs_ 37 137438953471) ?_
   refine done_ (done_of HT_.out (by kernel_rfl)) ?_
   try go_wp2
   go_meet
   case rel => exact ⟨_, (true), rf_, H', ⟨by first | omega | exact Nat.le_refl _⟩, bw_ a7, bw_ a8, ⟨hw_ HB⟩⟩
 case rest =>
  clear H4
  obtain ⟨kq, m3, rfl, HA, Q0, a7, a8, HB⟩ := hcut
  cases kq with
  | zero => exact absurd HA.out (by simp [spec_AtGrid.j0])
  | succ kj3 =>
   have H := HA.out; clear HA
   simp only [spec_AtGrid.j0] at H
   by_cases D8 : m3 = true
   ·subst D8
    have H1 : (some (0, 0, false)) = some (r1, r2, r3) := by rw [if_pos rfl] at H; exact H
    clear H
    have H := H1
    clear H1
    simp only [Option.some.injEq, Prod.mk.injEq] at H
    obtain ⟨rfl, rfl, rfl⟩ := H; have M8 := j3.out
    have M9 := h5.out; have D9 := bc0_ a8
    have E0 := bc1_ a8; have E1 := bf_ a8 0; have E2 := bf_ a8 1; go_wp2
    refine bodyPost_ret (results_ct rfl _ _ j7 48 #[.int .i64 0, .int .i64 0] (0, 0) _ rfl (by (with_reducible repeat (first | refine blk_drewN ?_ _ | refine blk_drew ?_ | refine blk_alloc ?_ _)); refine blk_put (cs := #[.int .i64 0, .int .i64 0]) ?_ 1 _ rfl; (with_reducible repeat (first | refine blk_drewN ?_ _ | refine blk_drew ?_ | refine blk_alloc ?_ _)); refine blk_put (cs := #[.int .i64 0, .int .i64 0]) ?_ 0 _ rfl; (with_reducible repeat (first | refine blk_drewN ?_ _ | refine blk_drew ?_ | refine blk_alloc ?_ _)); exact a8.out) Try.underlying48 rfl (by kernel_rfl)) rfl ?_
    exact ⟨re_, by repeat (first | (with_reducible first | exact HB.out | apply below_alloc | apply pw_below_drewN | apply below_drew1 | refine below_set ?_ o6.out) | exact HB.out)⟩
   ·replace D8 := Bool.eq_false_iff.mpr D8; subst D8
    have H1 : ((spec_l1Low.f kj3 l0_0 a1).bind fun a5 => ((spec_l1Low.f kj3 l0_1 a2).bind fun a6 => (if 0 ≤ (wrap64 (a5 + 1)) then (if (wrap64 (a5 + 1)) < (l0_0.length : Int) then (if 0 ≤ a5 then (if a5 < (l0_0.length : Int) then (if 0 ≤ (wrap64 (a6 + 1)) then (if (wrap64 (a6 + 1)) < (l0_1.length : Int) then (if 0 ≤ a6 then (if a6 < (l0_1.length : Int) then (if a6 < (l0_2.length : Int) then (if a5 < ((rd_L1 l0_2 a6).length : Int) then (if (wrap64 (a5 + 1)) < ((rd_L1 l0_2 a6).length : Int) then (if (wrap64 (a6 + 1)) < (l0_2.length : Int) then (if a5 < ((rd_L1 l0_2 (wrap64 (a6 + 1))).length : Int) then (if (wrap64 (a5 + 1)) < ((rd_L1 l0_2 (wrap64 (a6 + 1))).length : Int) then ((spec_l1Frac.f kj3 (wrap64 ((wrap64 ((wrap64 ((wrap64 ((rd (rd_L1 l0_2 a6) a5) * (wrap64 ((rd l0_0 (wrap64 (a5 + 1))) - (rd l0_0 a5))))) + (wrap64 ((wrap64 ((rd (rd_L1 l0_2 a6) (wrap64 (a5 + 1))) - (rd (rd_L1 l0_2 a6) a5))) * (wrap64 (a1 - (rd l0_0 a5))))))) * (wrap64 ((rd l0_1 (wrap64 (a6 + 1))) - (rd l0_1 a6))))) + (wrap64 ((wrap64 ((wrap64 ((wrap64 ((rd (rd_L1 l0_2 (wrap64 (a6 + 1))) a5) * (wrap64 ((rd l0_0 (wrap64 (a5 + 1))) - (rd l0_0 a5))))) + (wrap64 ((wrap64 ((rd (rd_L1 l0_2 (wrap64 (a6 + 1))) (wrap64 (a5 + 1))) - (rd (rd_L1 l0_2 (wrap64 (a6 + 1))) a5))) * (wrap64 (a1 - (rd l0_0 a5))))))) - (wrap64 ((wrap64 ((rd (rd_L1 l0_2 a6) a5) * (wrap64 ((rd l0_0 (wrap64 (a5 + 1))) - (rd l0_0 a5))))) + (wrap64 ((wrap64 ((rd (rd_L1 l0_2 a6) (wrap64 (a5 + 1))) - (rd (rd_L1 l0_2 a6) a5))) * (wrap64 (a1 - (rd l0_0 a5))))))))) * (wrap64 (a2 - (rd l0_1 a6))))))) (wrap64 ((wrap64 ((rd l0_0 (wrap64 (a5 + 1))) - (rd l0_0 a5))) * (wrap64 ((rd l0_1 (wrap64 (a6 + 1))) - (rd l0_1 a6)))))).bind fun b6 => (some (b6.1, b6.2, true))) else (none)) else (none)) else (none)) else (none)) else (none)) else (none)) else (none)) else (none)) else (none)) else (none)) else (none)) else (none)) else (none)) else (none)))) = some (r1, r2, r3) := by rw [if_neg (show ¬ (false = true) by decide)] at H; exact H
    clear H
    have H := H1
    clear H1; replace H := Option.bind_eq_some_iff.mp H; obtain ⟨a5, B0, H⟩ := H
    replace H : ((spec_l1Low.f kj3 l0_1 a2).bind fun a6 => (if 0 ≤ (wrap64 (a5 + 1)) then (if (wrap64 (a5 + 1)) < (l0_0.length : Int) then (if 0 ≤ a5 then (if a5 < (l0_0.length : Int) then (if 0 ≤ (wrap64 (a6 + 1)) then (if (wrap64 (a6 + 1)) < (l0_1.length : Int) then (if 0 ≤ a6 then (if a6 < (l0_1.length : Int) then (if a6 < (l0_2.length : Int) then (if a5 < ((rd_L1 l0_2 a6).length : Int) then (if (wrap64 (a5 + 1)) < ((rd_L1 l0_2 a6).length : Int) then (if (wrap64 (a6 + 1)) < (l0_2.length : Int) then (if a5 < ((rd_L1 l0_2 (wrap64 (a6 + 1))).length : Int) then (if (wrap64 (a5 + 1)) < ((rd_L1 l0_2 (wrap64 (a6 + 1))).length : Int) then ((spec_l1Frac.f kj3 (wrap64 ((wrap64 ((wrap64 ((wrap64 ((rd (rd_L1 l0_2 a6) a5) * (wrap64 ((rd l0_0 (wrap64 (a5 + 1))) - (rd l0_0 a5))))) + (wrap64 ((wrap64 ((rd (rd_L1 l0_2 a6) (wrap64 (a5 + 1))) - (rd (rd_L1 l0_2 a6) a5))) * (wrap64 (a1 - (rd l0_0 a5))))))) * (wrap64 ((rd l0_1 (wrap64 (a6 + 1))) - (rd l0_1 a6))))) + (wrap64 ((wrap64 ((wrap64 ((wrap64 ((rd (rd_L1 l0_2 (wrap64 (a6 + 1))) a5) * (wrap64 ((rd l0_0 (wrap64 (a5 + 1))) - (rd l0_0 a5))))) + (wrap64 ((wrap64 ((rd (rd_L1 l0_2 (wrap64 (a6 + 1))) (wrap64 (a5 + 1))) - (rd (rd_L1 l0_2 (wrap64 (a6 + 1))) a5))) * (wrap64 (a1 - (rd l0_0 a5))))))) - (wrap64 ((wrap64 ((rd (rd_L1 l0_2 a6) a5) * (wrap64 ((rd l0_0 (wrap64 (a5 + 1))) - (rd l0_0 a5))))) + (wrap64 ((wrap64 ((rd (rd_L1 l0_2 a6) (wrap64 (a5 + 1))) - (rd (rd_L1 l0_2 a6) a5))) * (wrap64 (a1 - (rd l0_0 a5))))))))) * (wrap64 (a2 - (rd l0_1 a6))))))) (wrap64 ((wrap64 ((rd l0_0 (wrap64 (a5 + 1))) - (rd l0_0 a5))) * (wrap64 ((rd l0_1 (wrap64 (a6 + 1))) - (rd l0_1 a6)))))).bind fun b6 => (some (b6.1, b6.2, true))) else (none)) else (none)) else (none)) else (none)) else (none)) else (none)) else (none)) else (none)) else (none)) else (none)) else (none)) else (none)) else (none)) else (none))) = some (r1, r2, r3) := H
    have H9 := mk_ B0; clear B0; replace H := Option.bind_eq_some_iff.mp H; obtain ⟨a6, B2, H⟩ := H
    replace H : (if 0 ≤ (wrap64 (a5 + 1)) then (if (wrap64 (a5 + 1)) < (l0_0.length : Int) then (if 0 ≤ a5 then (if a5 < (l0_0.length : Int) then (if 0 ≤ (wrap64 (a6 + 1)) then (if (wrap64 (a6 + 1)) < (l0_1.length : Int) then (if 0 ≤ a6 then (if a6 < (l0_1.length : Int) then (if a6 < (l0_2.length : Int) then (if a5 < ((rd_L1 l0_2 a6).length : Int) then (if (wrap64 (a5 + 1)) < ((rd_L1 l0_2 a6).length : Int) then (if (wrap64 (a6 + 1)) < (l0_2.length : Int) then (if a5 < ((rd_L1 l0_2 (wrap64 (a6 + 1))).length : Int) then (if (wrap64 (a5 + 1)) < ((rd_L1 l0_2 (wrap64 (a6 + 1))).length : Int) then ((spec_l1Frac.f kj3 (wrap64 ((wrap64 ((wrap64 ((wrap64 ((rd (rd_L1 l0_2 a6) a5) * (wrap64 ((rd l0_0 (wrap64 (a5 + 1))) - (rd l0_0 a5))))) + (wrap64 ((wrap64 ((rd (rd_L1 l0_2 a6) (wrap64 (a5 + 1))) - (rd (rd_L1 l0_2 a6) a5))) * (wrap64 (a1 - (rd l0_0 a5))))))) * (wrap64 ((rd l0_1 (wrap64 (a6 + 1))) - (rd l0_1 a6))))) + (wrap64 ((wrap64 ((wrap64 ((wrap64 ((rd (rd_L1 l0_2 (wrap64 (a6 + 1))) a5) * (wrap64 ((rd l0_0 (wrap64 (a5 + 1))) - (rd l0_0 a5))))) + (wrap64 ((wrap64 ((rd (rd_L1 l0_2 (wrap64 (a6 + 1))) (wrap64 (a5 + 1))) - (rd (rd_L1 l0_2 (wrap64 (a6 + 1))) a5))) * (wrap64 (a1 - (rd l0_0 a5))))))) - (wrap64 ((wrap64 ((rd (rd_L1 l0_2 a6) a5) * (wrap64 ((rd l0_0 (wrap64 (a5 + 1))) - (rd l0_0 a5))))) + (wrap64 ((wrap64 ((rd (rd_L1 l0_2 a6) (wrap64 (a5 + 1))) - (rd (rd_L1 l0_2 a6) a5))) * (wrap64 (a1 - (rd l0_0 a5))))))))) * (wrap64 (a2 - (rd l0_1 a6))))))) (wrap64 ((wrap64 ((rd l0_0 (wrap64 (a5 + 1))) - (rd l0_0 a5))) * (wrap64 ((rd l0_1 (wrap64 (a6 + 1))) - (rd l0_1 a6)))))).bind fun b6 => (some (b6.1, b6.2, true))) else (none)) else (none)) else (none)) else (none)) else (none)) else (none)) else (none)) else (none)) else (none)) else (none)) else (none)) else (none)) else (none)) else (none)) = some (r1, r2, r3) := H
    have I0 := mk_ B2; clear B2
    obtain ⟨a9, h9⟩ : ∃ j_ : Int, (wrap64 (a5 + 1)) = j_ := ⟨_, rfl⟩
    replace H : (if 0 ≤ (a9) then (if (a9) < (l0_0.length : Int) then (if 0 ≤ a5 then (if a5 < (l0_0.length : Int) then (if 0 ≤ (wrap64 (a6 + 1)) then (if (wrap64 (a6 + 1)) < (l0_1.length : Int) then (if 0 ≤ a6 then (if a6 < (l0_1.length : Int) then (if a6 < (l0_2.length : Int) then (if a5 < ((rd_L1 l0_2 a6).length : Int) then (if (a9) < ((rd_L1 l0_2 a6).length : Int) then (if (wrap64 (a6 + 1)) < (l0_2.length : Int) then (if a5 < ((rd_L1 l0_2 (wrap64 (a6 + 1))).length : Int) then (if (a9) < ((rd_L1 l0_2 (wrap64 (a6 + 1))).length : Int) then ((spec_l1Frac.f kj3 (wrap64 ((wrap64 ((wrap64 ((wrap64 ((rd (rd_L1 l0_2 a6) a5) * (wrap64 ((rd l0_0 (a9)) - (rd l0_0 a5))))) + (wrap64 ((wrap64 ((rd (rd_L1 l0_2 a6) (a9)) - (rd (rd_L1 l0_2 a6) a5))) * (wrap64 (a1 - (rd l0_0 a5))))))) * (wrap64 ((rd l0_1 (wrap64 (a6 + 1))) - (rd l0_1 a6))))) + (wrap64 ((wrap64 ((wrap64 ((wrap64 ((rd (rd_L1 l0_2 (wrap64 (a6 + 1))) a5) * (wrap64 ((rd l0_0 (a9)) - (rd l0_0 a5))))) + (wrap64 ((wrap64 ((rd (rd_L1 l0_2 (wrap64 (a6 + 1))) (a9)) - (rd (rd_L1 l0_2 (wrap64 (a6 + 1))) a5))) * (wrap64 (a1 - (rd l0_0 a5))))))) - (wrap64 ((wrap64 ((rd (rd_L1 l0_2 a6) a5) * (wrap64 ((rd l0_0 (a9)) - (rd l0_0 a5))))) + (wrap64 ((wrap64 ((rd (rd_L1 l0_2 a6) (a9)) - (rd (rd_L1 l0_2 a6) a5))) * (wrap64 (a1 - (rd l0_0 a5))))))))) * (wrap64 (a2 - (rd l0_1 a6))))))) (wrap64 ((wrap64 ((rd l0_0 (a9)) - (rd l0_0 a5))) * (wrap64 ((rd l0_1 (wrap64 (a6 + 1))) - (rd l0_1 a6)))))).bind fun b6 => (some (b6.1, b6.2, true))) else (none)) else (none)) else (none)) else (none)) else (none)) else (none)) else (none)) else (none)) else (none)) else (none)) else (none)) else (none)) else (none)) else (none)) = some (r1, r2, r3) := by first | (rw [h9] at H; exact H) | (simp only [h9] at H ⊢; exact H)
    (try rw [h9] at H9)
    (try rw [h9] at I0)
    have hji31w : (IntKind.i64.wrap (a5 + 1)) = a9 := (i64_w _).trans h9
    by_cases E3 : 0 ≤ (a9)
    ·rw [if_pos E3] at H; have N0 : decide (0 ≤ (a9)) = true := decide_eq_true E3; clear E3; by_cases E4 : (a9) < (l0_0.length : Int)
     ·rw [if_pos E4] at H; have N1 : decide ((a9) < (l0_0.length : Int)) = true := decide_eq_true E4; clear E4; by_cases E5 : 0 ≤ a5
      ·rw [if_pos E5] at H; have N2 : decide (0 ≤ a5) = true := decide_eq_true E5; clear E5; by_cases E6 : a5 < (l0_0.length : Int)
       ·rw [if_pos E6] at H; have N3 : decide (a5 < (l0_0.length : Int)) = true := decide_eq_true E6; clear E6
        obtain ⟨b0, j1⟩ : ∃ j_ : Int, (wrap64 (a6 + 1)) = j_ := ⟨_, rfl⟩
        replace H : (if 0 ≤ (b0) then (if (b0) < (l0_1.length : Int) then (if 0 ≤ a6 then (if a6 < (l0_1.length : Int) then (if a6 < (l0_2.length : Int) then (if a5 < ((rd_L1 l0_2 a6).length : Int) then (if (a9) < ((rd_L1 l0_2 a6).length : Int) then (if (b0) < (l0_2.length : Int) then (if a5 < ((rd_L1 l0_2 (b0)).length : Int) then (if (a9) < ((rd_L1 l0_2 (b0)).length : Int) then ((spec_l1Frac.f kj3 (wrap64 ((wrap64 ((wrap64 ((wrap64 ((rd (rd_L1 l0_2 a6) a5) * (wrap64 ((rd l0_0 (a9)) - (rd l0_0 a5))))) + (wrap64 ((wrap64 ((rd (rd_L1 l0_2 a6) (a9)) - (rd (rd_L1 l0_2 a6) a5))) * (wrap64 (a1 - (rd l0_0 a5))))))) * (wrap64 ((rd l0_1 (b0)) - (rd l0_1 a6))))) + (wrap64 ((wrap64 ((wrap64 ((wrap64 ((rd (rd_L1 l0_2 (b0)) a5) * (wrap64 ((rd l0_0 (a9)) - (rd l0_0 a5))))) + (wrap64 ((wrap64 ((rd (rd_L1 l0_2 (b0)) (a9)) - (rd (rd_L1 l0_2 (b0)) a5))) * (wrap64 (a1 - (rd l0_0 a5))))))) - (wrap64 ((wrap64 ((rd (rd_L1 l0_2 a6) a5) * (wrap64 ((rd l0_0 (a9)) - (rd l0_0 a5))))) + (wrap64 ((wrap64 ((rd (rd_L1 l0_2 a6) (a9)) - (rd (rd_L1 l0_2 a6) a5))) * (wrap64 (a1 - (rd l0_0 a5))))))))) * (wrap64 (a2 - (rd l0_1 a6))))))) (wrap64 ((wrap64 ((rd l0_0 (a9)) - (rd l0_0 a5))) * (wrap64 ((rd l0_1 (b0)) - (rd l0_1 a6)))))).bind fun b6 => (some (b6.1, b6.2, true))) else (none)) else (none)) else (none)) else (none)) else (none)) else (none)) else (none)) else (none)) else (none)) else (none)) = some (r1, r2, r3) := by first | (rw [j1] at H; exact H) | (simp only [j1] at H ⊢; exact H)
        (try rw [j1] at H9)
        (try rw [j1] at I0)
        have hji36w : (IntKind.i64.wrap (a6 + 1)) = b0 := (i64_w _).trans j1
        by_cases E7 : 0 ≤ (b0)
        ·rw [if_pos E7] at H; have N4 : decide (0 ≤ (b0)) = true := decide_eq_true E7; clear E7; by_cases E8 : (b0) < (l0_1.length : Int)
         ·rw [if_pos E8] at H; have N5 : decide ((b0) < (l0_1.length : Int)) = true := decide_eq_true E8; clear E8; by_cases E9 : 0 ≤ a6
          ·rw [if_pos E9] at H; have N6 : decide (0 ≤ a6) = true := decide_eq_true E9; clear E9; by_cases F0 : a6 < (l0_1.length : Int)
           ·rw [if_pos F0] at H; have N7 : decide (a6 < (l0_1.length : Int)) = true := decide_eq_true F0; clear F0; by_cases F1 : a6 < (l0_2.length : Int)
            ·rw [if_pos F1] at H; have N8 : decide (a6 < (l0_2.length : Int)) = true := decide_eq_true F1; clear F1; by_cases F2 : a5 < ((rd_L1 l0_2 a6).length : Int)
             ·rw [if_pos F2] at H; have N9 : decide (a5 < ((rd_L1 l0_2 a6).length : Int)) = true := decide_eq_true F2; clear F2; by_cases F3 : (a9) < ((rd_L1 l0_2 a6).length : Int)
              ·rw [if_pos F3] at H; have O0 : decide ((a9) < ((rd_L1 l0_2 a6).length : Int)) = true := decide_eq_true F3; clear F3; by_cases F4 : (b0) < (l0_2.length : Int)
               ·rw [if_pos F4] at H; have O1 : decide ((b0) < (l0_2.length : Int)) = true := decide_eq_true F4; clear F4; by_cases F5 : a5 < ((rd_L1 l0_2 (b0)).length : Int)
                ·rw [if_pos F5] at H; have O2 : decide (a5 < ((rd_L1 l0_2 (b0)).length : Int)) = true := decide_eq_true F5; clear F5; by_cases F6 : (a9) < ((rd_L1 l0_2 (b0)).length : Int)
                 ·rw [if_pos F6] at H; have O3 : decide ((a9) < ((rd_L1 l0_2 (b0)).length : Int)) = true := decide_eq_true F6; clear F6; replace H := Option.bind_eq_some_iff.mp H; obtain ⟨⟨o5, p6⟩, B7, H⟩ := H
                  replace H : (some (o5, p6, true)) = some (r1, r2, r3) := H
                  have P1 := mk_ B7; clear B7
                  simp only [Option.some.injEq, Prod.mk.injEq] at H
                  obtain ⟨rfl, rfl, rfl⟩ := H
                  try go_wp2
                  replace a7 := dB_ a7; replace a8 := dB_ a8; replace HB := dH_ HB
                  refine start_ (n := 10) (S := fun w' => w'.cell? ⟨b4, 0, none⟩ = some (.slice A0_0 l0_0.length c0_0) ∧ w'.cell? ⟨b4, 1, none⟩ = some (.slice A0_1 l0_1.length c0_1) ∧ w'.cell? ⟨b4, 2, none⟩ = some (.slice A0_2 l0_2.length c0_2)) (ds := []) (bs_ 10 0) (by kernel_rfl) rfl (by kernel_rfl) ⟨bc0_ a7, bc1_ a7, bc2_ a7⟩ (fun hHeld => ?_); refine with_tabW spec_AtGrid.tab3 spec_AtGrid.bits3 (fun HT_ HW_ => ?_)
                  generalize wc.drew = l4 at a7 a8 HB hHeld ⊢
                  refine pu_ HT_ 0 52 (bs_ 10 1) ?_; refine pu_ HT_ 2 54 (bs_ 10 5) ?_; refine pu_ HT_ 4 56 (bs_ 10 21) ?_; refine pu_ HT_ 6 58 (bs_ 10 85) ?_; refine tk_ HT_ HW_ 1 53 (bs_ 10 87) hHeld ?_; refine tk_ HT_ HW_ 5 57 (bs_ 10 119) hHeld ?_
                  refine one_ (i := 3) (N := some 55) (bs_ 10 127) rfl rfl (one_of HT_.out (by kernel_rfl)) (by decide) (fun K hK => ?_)
                  refine gs_ Try.func71 #[.slice A0_0 l0_0.length c0_0, .int .i64 a1] ?_
                  with_reducible refine (spec_l1Low.calls kj3 _ _ l0_0 a1 a5 _ ?d8 ?d9 H9.out).mono ?_
                  (case d8 => exact cw_ (Kd.C_below c5.out HB.out))
                  (case d9 => exact m1.out)
                  rintro e w' ⟨rfl, ⟨nd, rfl⟩⟩
                  refine ⟨_, rfl, ?_⟩
                  refine hK.out _ _ ⟨bc0_ a7, bc1_ a7, bc2_ a7⟩ (fun hHeld => ?_)
                  clear hK K; refine nm_ ?_
                  refine one_ (i := 7) (N := some 59) (bs_ 10 255) rfl rfl (one_of HT_.out (by kernel_rfl)) (by decide) (fun K hK => ?_)
                  refine gs_ Try.func71 #[.slice A0_1 l0_1.length c0_1, .int .i64 a2] ?_
                  with_reducible refine (spec_l1Low.calls kj3 _ _ l0_1 a2 a6 _ ?d8 ?d9 I0.out).mono ?_
                  (case d8 => repeat (first | exact (Kd.C_below d5.out (hw_ HB)) | (with_reducible refine Kd.C_alloc ?_ _) | (with_reducible refine Kd.C_drewN ?_ _) | (with_reducible refine Kd.C_drew ?_)))
                  (case d9 => exact m2.out)
                  rintro e w' ⟨rfl, ⟨nd, rfl⟩⟩
                  refine ⟨_, rfl, ?_⟩
                  refine hK.out _ _ ⟨bc0_ a7, bc1_ a7, bc2_ a7⟩ (fun hHeld => ?_)
                  clear hK K; refine nm_ ?_; refine pu_ HT_ 8 8 (bs_ 10 511) ?_; refine pu_ HT_ 9 9 (bs_ 10 1023) ?_
                  refine done_ (done_of HT_.out (by kernel_rfl)) ?_
                  try go_wp2
                  (first | (rw [World.drewN_drewN]; (repeat rw [World.drewN_drewN]); generalize hq_ : World.drewN l4 _ = l4; have o7 : Aside0 (l4.heap[b4]? = some (.cells #[.slice A0_0 l0_0.length c0_0, .slice A0_1 l0_1.length c0_1, .slice A0_2 l0_2.length c0_2] 75 (0, 0))) := ⟨by rw [← hq_]; exact (bx_ a7)⟩; have o8 : Aside0 (l4.heap[j7]? = some (.cells #[.int .i64 0, .int .i64 0] 48 (0, 0))) := ⟨by rw [← hq_]; exact (bx_ a8)⟩; have o9 : Aside0 (Below w.heap.size w l4) := ⟨by rw [← hq_]; exact (hw_ HB)⟩; clear a7 a8 HB hq_; have a7 := o7; have a8 := o8; have HB := o9; clear o7 o8 o9) | (rw [(rfl : World.drewN l4 nd = World.drewN l4 nd)]; generalize hq_ : World.drewN l4 nd = l4; have o7 : Aside0 (l4.heap[b4]? = some (.cells #[.slice A0_0 l0_0.length c0_0, .slice A0_1 l0_1.length c0_1, .slice A0_2 l0_2.length c0_2] 75 (0, 0))) := ⟨by rw [← hq_]; exact (bx_ a7)⟩; have o8 : Aside0 (l4.heap[j7]? = some (.cells #[.int .i64 0, .int .i64 0] 48 (0, 0))) := ⟨by rw [← hq_]; exact (bx_ a8)⟩; have o9 : Aside0 (Below w.heap.size w l4) := ⟨by rw [← hq_]; exact (hw_ HB)⟩; clear a7 a8 HB hq_; have a7 := o7; have a8 := o8; have HB := o9; clear o7 o8 o9) | (try (rw [drewN_self l4]; generalize hq_ : World.drewN l4 _ = l4; have o7 := qB_ hq_ a7; have o8 := qB_ hq_ a8; have o9 := qH_ hq_ HB; clear a7 a8 HB hq_; have a7 := o7; have a8 := o8; have HB := o9; clear o7 o8 o9)))
                  replace a7 := dB_ a7; replace a8 := dB_ a8; replace HB := dH_ HB
                  have p7 : 0 ≤ ((a9) : Int) := od_
                  have p8 : (a9) < (l0_0.length : Int) := od_
                  obtain ⟨d3, I1, g1⟩ := Kd.at_int c5.out (a9) p7 p8
                  have hw137_0 := g1
                  cases I1
                  replace g1 := (HB.out.cell (World.block_lt_of_cell? w _ g1)).trans g1
                  replace p7 := eq_true p7; replace p8 := eq_true p8
                  have p9 : 0 ≤ (a5 : Int) := od_
                  have q0 : a5 < (l0_0.length : Int) := od_
                  obtain ⟨B8, I2, g2⟩ := Kd.at_int c5.out a5 p9 q0
                  have hw138_0 := g2
                  obtain rfl : d3 = B8 := (by injection I2)
                  replace g2 := (HB.out.cell (World.block_lt_of_cell? w _ g2)).trans g2
                  replace p9 := eq_true p9; replace q0 := eq_true q0
                  have q1 : 0 ≤ ((b0) : Int) := od_
                  have q2 : (b0) < (l0_1.length : Int) := od_
                  obtain ⟨j2, I3, g3⟩ := Kd.at_int d5.out (b0) q1 q2
                  have hw139_0 := g3
                  cases I3
                  replace g3 := (HB.out.cell (World.block_lt_of_cell? w _ g3)).trans g3
                  replace q1 := eq_true q1; replace q2 := eq_true q2
                  have q3 : 0 ≤ (a6 : Int) := od_
                  have q4 : a6 < (l0_1.length : Int) := od_
                  obtain ⟨B9, I4, g4⟩ := Kd.at_int d5.out a6 q3 q4
                  have hw140_0 := g4
                  obtain rfl : j2 = B9 := (by injection I4)
                  replace g4 := (HB.out.cell (World.block_lt_of_cell? w _ g4)).trans g4
                  replace q3 := eq_true q3; replace q4 := eq_true q4
                  refine start_ (n := 26) (S := fun w' => w'.cell? ⟨b4, 0, none⟩ = some (.slice (some d3) l0_0.length c0_0) ∧ w'.cell? ⟨b4, 1, none⟩ = some (.slice (some j2) l0_1.length c0_1) ∧ w'.cell? ⟨b4, 2, none⟩ = some (.slice A0_2 l0_2.length c0_2) ∧ w'.cell? (d3.add ((a9)).toNat) = some (.int .i64 (rd l0_0 (a9))) ∧ w'.cell? (d3.add (a5).toNat) = some (.int .i64 (rd l0_0 a5)) ∧ w'.cell? (j2.add ((b0)).toNat) = some (.int .i64 (rd l0_1 (b0))) ∧ w'.cell? (j2.add (a6).toNat) = some (.int .i64 (rd l0_1 a6))) (ds := []) (bs_ 26 0) (by kernel_rfl) rfl (by kernel_rfl) ⟨bc0_ a7, bc1_ a7, bc2_ a7, ((HB.out.cell (World.block_lt_of_cell? w _ hw137_0)).trans hw137_0), ((HB.out.cell (World.block_lt_of_cell? w _ hw138_0)).trans hw138_0), ((HB.out.cell (World.block_lt_of_cell? w _ hw139_0)).trans hw139_0), ((HB.out.cell (World.block_lt_of_cell? w _ hw140_0)).trans hw140_0)⟩ (fun hHeld => ?_); refine with_tabW spec_AtGrid.tab4 spec_AtGrid.bits4 (fun HT_ HW_ => ?_)
                  generalize l4.drew = P2 at a7 a8 HB g1 g2 g3 g4 hHeld ⊢
                  refine pu_ HT_ 0 60 (bs_ 26 1) ?_; refine pu_ HT_ 2 62 (bs_ 26 5) ?_; refine pu_ HT_ 3 63 (bs_ 26 13) ?_; refine pu_ HT_ 6 66 (bs_ 26 77) ?_; refine pu_ HT_ 8 68 (bs_ 26 333) ?_; refine pu_ HT_ 12 72 (bs_ 26 4429) ?_; refine pu_ HT_ 14 74 (bs_ 26 20813) ?_; refine pu_ HT_ 15 75 (bs_ 26 53581) ?_; refine pu_ HT_ 18 78 (bs_ 26 315725) ?_; refine pu_ HT_ 20 80 (bs_ 26 1364301) ?_; refine tk_ HT_ HW_ 1 61 (bs_ 26 1364303) hHeld ?_; refine pu_ HT_ 4 64 (bs_ 26 1364319) ?_; refine tk_ HT_ HW_ 5 65 (bs_ 26 1364351) hHeld ?_; refine tk_ HT_ HW_ 7 67 (bs_ 26 1364479) hHeld ?_; refine pu_ HT_ 9 69 (bs_ 26 1364991) ?_; refine tk_ HT_ HW_ 10 70 (bs_ 26 1366015) hHeld ?_; refine pu_ HT_ 11 71 (bs_ 26 1368063) ?_; refine pu_ HT_ 24 10 (bs_ 26 18145279) ?_; refine tk_ HT_ HW_ 13 73 (bs_ 26 18153471) hHeld ?_; refine pu_ HT_ 16 76 (bs_ 26 18219007) ?_; refine tk_ HT_ HW_ 17 77 (bs_ 26 18350079) hHeld ?_; refine tk_ HT_ HW_ 19 79 (bs_ 26 18874367) hHeld ?_; refine pu_ HT_ 21 81 (bs_ 26 20971519) ?_; refine tk_ HT_ HW_ 22 82 (bs_ 26 25165823) hHeld ?_; refine pu_ HT_ 23 83 (bs_ 26 33554431) ?_; refine pu_ HT_ 25 11 (bs_ 26 67108863) ?_
                  refine done_ (done_of HT_.out (by kernel_rfl)) ?_
                  try go_wp2
                  replace a7 := dB_ a7; replace a8 := dB_ a8; replace HB := dH_ HB
                  have q5 : 0 ≤ (a6 : Int) := od_
                  have q6 : a6 < (l0_2.length : Int) := od_
                  obtain ⟨b9, I5, l9, I6, c3, m4, m5⟩ := at_L1 d6.out a6 q5 q6
                  have hw141_0 := c3
                  cases I6
                  replace c3 := (HB.out.cell (World.block_lt_of_cell? w _ c3)).trans c3
                  have m6 := mk_ m5; have F7 := mk_ m4; clear m5 m4; replace q5 := eq_true q5; replace q6 := eq_true q6
                  have q7 : 0 ≤ (a5 : Int) := od_
                  have q8 : a5 < ((rd_L1 l0_2 a6).length : Int) := od_
                  obtain ⟨h6, I7, g5⟩ := Kd.at_int m6.out a5 q7 q8
                  have hw142_0 := g5
                  cases I7
                  replace g5 := (HB.out.cell (World.block_lt_of_cell? w _ g5)).trans g5
                  replace q7 := eq_true q7; replace q8 := eq_true q8
                  have q9 : 0 ≤ (a6 : Int) := od_
                  have s0 : a6 < (l0_2.length : Int) := od_
                  obtain ⟨C0, I8, I9, J0, c7, m7, m8⟩ := at_L1 d6.out a6 q9 s0
                  have hw143_0 := c7
                  obtain rfl : b9 = C0 := (by injection J0)
                  replace c7 := (HB.out.cell (World.block_lt_of_cell? w _ c7)).trans c7
                  have m9 := mk_ m8; have F8 := mk_ m7; clear m8 m7; replace q9 := eq_true q9; replace s0 := eq_true s0
                  have ea_ := Option.some.inj (c3.symm.trans c7)
                  injection ea_ with ea_ en_ ec_
                  subst ea_; subst ec_
                  clear en_
                  have s1 : 0 ≤ ((a9) : Int) := od_
                  have s2 : (a9) < ((rd_L1 l0_2 a6).length : Int) := od_
                  obtain ⟨C1, J1, g6⟩ := Kd.at_int m9.out (a9) s1 s2
                  have hw144_0 := g6
                  obtain rfl : h6 = C1 := (by injection J1)
                  replace g6 := (HB.out.cell (World.block_lt_of_cell? w _ g6)).trans g6
                  replace s1 := eq_true s1; replace s2 := eq_true s2
                  have s3 : 0 ≤ (a6 : Int) := od_
                  have s4 : a6 < (l0_2.length : Int) := od_
                  obtain ⟨C2, J2, J3, J4, d0, n0, n1⟩ := at_L1 d6.out a6 s3 s4
                  have hw145_0 := d0
                  obtain rfl : b9 = C2 := (by injection J4)
                  replace d0 := (HB.out.cell (World.block_lt_of_cell? w _ d0)).trans d0
                  have n2 := mk_ n1; have F9 := mk_ n0; clear n1 n0; replace s3 := eq_true s3; replace s4 := eq_true s4
                  have ea_ := Option.some.inj (c3.symm.trans d0)
                  injection ea_ with ea_ en_ ec_
                  subst ea_; subst ec_
                  clear en_
                  have s5 : 0 ≤ (a5 : Int) := od_
                  have s6 : a5 < ((rd_L1 l0_2 a6).length : Int) := od_
                  obtain ⟨C3, J5, g7⟩ := Kd.at_int n2.out a5 s5 s6
                  have hw146_0 := g7
                  obtain rfl : h6 = C3 := (by injection J5)
                  replace g7 := (HB.out.cell (World.block_lt_of_cell? w _ g7)).trans g7
                  replace s5 := eq_true s5; replace s6 := eq_true s6
                  have s7 : 0 ≤ (a5 : Int) := od_
                  have s8 : a5 < (l0_0.length : Int) := od_
                  obtain ⟨C4, J6, g8⟩ := Kd.at_int c5.out a5 s7 s8
                  have hw147_0 := g8
                  obtain rfl : d3 = C4 := (by injection J6)
                  replace g8 := (HB.out.cell (World.block_lt_of_cell? w _ g8)).trans g8
                  replace s7 := eq_true s7; replace s8 := eq_true s8
                  refine start_ (n := 38) (S := fun w' => w'.cell? ⟨b4, 0, none⟩ = some (.slice (some d3) l0_0.length c0_0) ∧ w'.cell? ⟨b4, 1, none⟩ = some (.slice (some j2) l0_1.length c0_1) ∧ w'.cell? ⟨b4, 2, none⟩ = some (.slice (some b9) l0_2.length c0_2) ∧ w'.cell? (b9.add (a6).toNat) = some (.slice (some h6) (rd_L1 l0_2 a6).length l9) ∧ w'.cell? (h6.add (a5).toNat) = some (.int .i64 (rd (rd_L1 l0_2 a6) a5)) ∧ w'.cell? (b9.add (a6).toNat) = some (.slice (some h6) (rd_L1 l0_2 a6).length l9) ∧ w'.cell? (h6.add ((a9)).toNat) = some (.int .i64 (rd (rd_L1 l0_2 a6) (a9))) ∧ w'.cell? (b9.add (a6).toNat) = some (.slice (some h6) (rd_L1 l0_2 a6).length l9) ∧ w'.cell? (h6.add (a5).toNat) = some (.int .i64 (rd (rd_L1 l0_2 a6) a5)) ∧ w'.cell? (d3.add (a5).toNat) = some (.int .i64 (rd l0_0 a5))) (ds := []) (bs_ 38 0) (by kernel_rfl) rfl (by kernel_rfl) ⟨bc0_ a7, bc1_ a7, bc2_ a7, ((HB.out.cell (World.block_lt_of_cell? w _ hw141_0)).trans hw141_0), ((HB.out.cell (World.block_lt_of_cell? w _ hw142_0)).trans hw142_0), ((HB.out.cell (World.block_lt_of_cell? w _ hw143_0)).trans hw143_0), ((HB.out.cell (World.block_lt_of_cell? w _ hw144_0)).trans hw144_0), ((HB.out.cell (World.block_lt_of_cell? w _ hw145_0)).trans hw145_0), ((HB.out.cell (World.block_lt_of_cell? w _ hw146_0)).trans hw146_0), ((HB.out.cell (World.block_lt_of_cell? w _ hw147_0)).trans hw147_0)⟩ (fun hHeld => ?_); refine with_tabW spec_AtGrid.tab5 spec_AtGrid.bits5 (fun HT_ HW_ => ?_)
                  generalize P2.drew = P3 at a7 a8 HB m6 m9 n2 c3 g5 c7 g6 d0 g7 g8 hHeld ⊢
                  refine pu_ HT_ 0 84 (bs_ 38 1) ?_; refine pu_ HT_ 2 86 (bs_ 38 5) ?_; refine pu_ HT_ 5 89 (bs_ 38 37) ?_; refine pu_ HT_ 8 92 (bs_ 38 293) ?_; refine pu_ HT_ 10 94 (bs_ 38 1317) ?_; refine pu_ HT_ 12 96 (bs_ 38 5413) ?_; refine pu_ HT_ 15 99 (bs_ 38 38181) ?_; refine pu_ HT_ 16 100 (bs_ 38 103717) ?_; refine pu_ HT_ 19 103 (bs_ 38 628005) ?_; refine pu_ HT_ 21 105 (bs_ 38 2725157) ?_; refine pu_ HT_ 24 108 (bs_ 38 19502373) ?_; refine pu_ HT_ 28 112 (bs_ 38 287937829) ?_; refine pu_ HT_ 29 113 (bs_ 38 824808741) ?_; refine pu_ HT_ 31 115 (bs_ 38 2972292389) ?_; refine tk_ HT_ HW_ 1 85 (bs_ 38 2972292391) hHeld ?_; refine pu_ HT_ 3 87 (bs_ 38 2972292399) ?_; refine tk_ HT_ HW_ 4 88 (bs_ 38 2972292415) hHeld ?_; refine pu_ HT_ 6 90 (bs_ 38 2972292479) ?_; refine tk_ HT_ HW_ 7 91 (bs_ 38 2972292607) hHeld ?_; refine pu_ HT_ 9 93 (bs_ 38 2972293119) ?_; refine tk_ HT_ HW_ 11 95 (bs_ 38 2972295167) hHeld ?_; refine pu_ HT_ 13 97 (bs_ 38 2972303359) ?_; refine tk_ HT_ HW_ 14 98 (bs_ 38 2972319743) hHeld ?_; refine pu_ HT_ 17 101 (bs_ 38 2972450815) ?_; refine tk_ HT_ HW_ 18 102 (bs_ 38 2972712959) hHeld ?_; refine tk_ HT_ HW_ 20 104 (bs_ 38 2973761535) hHeld ?_; refine pu_ HT_ 22 106 (bs_ 38 2977955839) ?_; refine tk_ HT_ HW_ 23 107 (bs_ 38 2986344447) hHeld ?_; refine pu_ HT_ 25 109 (bs_ 38 3019898879) ?_; refine tk_ HT_ HW_ 26 110 (bs_ 38 3087007743) hHeld ?_; refine pu_ HT_ 27 111 (bs_ 38 3221225471) ?_; refine tk_ HT_ HW_ 30 114 (bs_ 38 4294967295) hHeld ?_; refine pu_ HT_ 32 116 (bs_ 38 8589934591) ?_; refine tk_ HT_ HW_ 33 117 (bs_ 38 17179869183) hHeld ?_; refine pu_ HT_ 34 118 (bs_ 38 34359738367) ?_; refine pu_ HT_ 35 119 (bs_ 38 68719476735) ?_; refine pu_ HT_ 36 120 (bs_ 38 137438953471) ?_; refine pu_ HT_ 37 12 (bs_ 38 274877906943) ?_
                  refine done_ (done_of HT_.out (by kernel_rfl)) ?_
                  try go_wp2
                  replace a7 := dB_ a7; replace a8 := dB_ a8; replace HB := dH_ HB
                  have s9 : 0 ≤ ((b0) : Int) := od_
                  have t0 : (b0) < (l0_2.length : Int) := od_
                  obtain ⟨C5, J7, m0, J8, c4, n3, n4⟩ := at_L1 d6.out (b0) s9 t0
                  have hw148_0 := c4
                  obtain rfl : b9 = C5 := (by injection J8)
                  replace c4 := (HB.out.cell (World.block_lt_of_cell? w _ c4)).trans c4
                  have n5 := mk_ n4; have G0 := mk_ n3; clear n4 n3; replace s9 := eq_true s9; replace t0 := eq_true t0
                  have t1 : 0 ≤ (a5 : Int) := od_
                  have t2 : a5 < ((rd_L1 l0_2 (b0)).length : Int) := od_
                  obtain ⟨h7, J9, g9⟩ := Kd.at_int n5.out a5 t1 t2
                  have hw149_0 := g9
                  cases J9
                  replace g9 := (HB.out.cell (World.block_lt_of_cell? w _ g9)).trans g9
                  replace t1 := eq_true t1; replace t2 := eq_true t2
                  have t3 : 0 ≤ ((b0) : Int) := od_
                  have t4 : (b0) < (l0_2.length : Int) := od_
                  obtain ⟨C6, L0, L1, L2, d1, n6, n7⟩ := at_L1 d6.out (b0) t3 t4
                  have hw150_0 := d1
                  obtain rfl : b9 = C6 := (by injection L2)
                  replace d1 := (HB.out.cell (World.block_lt_of_cell? w _ d1)).trans d1
                  have n8 := mk_ n7; have G1 := mk_ n6; clear n7 n6; replace t3 := eq_true t3; replace t4 := eq_true t4
                  have ea_ := Option.some.inj (c4.symm.trans d1)
                  injection ea_ with ea_ en_ ec_
                  subst ea_; subst ec_
                  clear en_
                  have t5 : 0 ≤ ((a9) : Int) := od_
                  have t6 : (a9) < ((rd_L1 l0_2 (b0)).length : Int) := od_
                  obtain ⟨C7, L3, h2⟩ := Kd.at_int n8.out (a9) t5 t6
                  have hw151_0 := h2
                  obtain rfl : h7 = C7 := (by injection L3)
                  replace h2 := (HB.out.cell (World.block_lt_of_cell? w _ h2)).trans h2
                  replace t5 := eq_true t5; replace t6 := eq_true t6
                  have t7 : 0 ≤ ((b0) : Int) := od_
                  have t8 : (b0) < (l0_2.length : Int) := od_
                  obtain ⟨C8, L4, L5, L6, d2, n9, o0⟩ := at_L1 d6.out (b0) t7 t8
                  have hw152_0 := d2
                  obtain rfl : b9 = C8 := (by injection L6)
                  replace d2 := (HB.out.cell (World.block_lt_of_cell? w _ d2)).trans d2
                  have o1 := mk_ o0; have G2 := mk_ n9; clear o0 n9; replace t7 := eq_true t7; replace t8 := eq_true t8
                  have ea_ := Option.some.inj (c4.symm.trans d2)
                  injection ea_ with ea_ en_ ec_
                  subst ea_; subst ec_
                  clear en_
                  have t9 : 0 ≤ (a5 : Int) := od_
                  have y6 : a5 < ((rd_L1 l0_2 (b0)).length : Int) := od_
                  obtain ⟨C9, L7, h3⟩ := Kd.at_int o1.out a5 t9 y6
                  have hw153_0 := h3
                  obtain rfl : h7 = C9 := (by injection L7)
                  replace h3 := (HB.out.cell (World.block_lt_of_cell? w _ h3)).trans h3
                  replace t9 := eq_true t9; replace y6 := eq_true y6
                  have y7 : 0 ≤ (a5 : Int) := od_
                  have y8 : a5 < (l0_0.length : Int) := od_
                  obtain ⟨D0, L8, h4⟩ := Kd.at_int c5.out a5 y7 y8
                  have hw154_0 := h4
                  obtain rfl : d3 = D0 := (by injection L8)
                  replace h4 := (HB.out.cell (World.block_lt_of_cell? w _ h4)).trans h4
                  replace y7 := eq_true y7; replace y8 := eq_true y8
                  refine start_ (n := 41) (S := fun w' => w'.cell? ⟨b4, 0, none⟩ = some (.slice (some d3) l0_0.length c0_0) ∧ w'.cell? ⟨b4, 1, none⟩ = some (.slice (some j2) l0_1.length c0_1) ∧ w'.cell? ⟨b4, 2, none⟩ = some (.slice (some b9) l0_2.length c0_2) ∧ w'.cell? (b9.add ((b0)).toNat) = some (.slice (some h7) (rd_L1 l0_2 (b0)).length m0) ∧ w'.cell? (h7.add (a5).toNat) = some (.int .i64 (rd (rd_L1 l0_2 (b0)) a5)) ∧ w'.cell? (b9.add ((b0)).toNat) = some (.slice (some h7) (rd_L1 l0_2 (b0)).length m0) ∧ w'.cell? (h7.add ((a9)).toNat) = some (.int .i64 (rd (rd_L1 l0_2 (b0)) (a9))) ∧ w'.cell? (b9.add ((b0)).toNat) = some (.slice (some h7) (rd_L1 l0_2 (b0)).length m0) ∧ w'.cell? (h7.add (a5).toNat) = some (.int .i64 (rd (rd_L1 l0_2 (b0)) a5)) ∧ w'.cell? (d3.add (a5).toNat) = some (.int .i64 (rd l0_0 a5))) (ds := []) (bs_ 41 0) (by kernel_rfl) rfl (by kernel_rfl) ⟨bc0_ a7, bc1_ a7, bc2_ a7, ((HB.out.cell (World.block_lt_of_cell? w _ hw148_0)).trans hw148_0), ((HB.out.cell (World.block_lt_of_cell? w _ hw149_0)).trans hw149_0), ((HB.out.cell (World.block_lt_of_cell? w _ hw150_0)).trans hw150_0), ((HB.out.cell (World.block_lt_of_cell? w _ hw151_0)).trans hw151_0), ((HB.out.cell (World.block_lt_of_cell? w _ hw152_0)).trans hw152_0), ((HB.out.cell (World.block_lt_of_cell? w _ hw153_0)).trans hw153_0), ((HB.out.cell (World.block_lt_of_cell? w _ hw154_0)).trans hw154_0)⟩ (fun hHeld => ?_); refine with_tabW spec_AtGrid.tab6 spec_AtGrid.bits6 (fun HT_ HW_ => ?_)
                  generalize P3.drew = Q1 at a7 a8 HB n5 n8 o1 c4 g9 d1 h2 d2 h3 h4 hHeld ⊢
                  refine pu_ HT_ 0 121 (bs_ 41 1) ?_; refine pu_ HT_ 2 123 (bs_ 41 5) ?_; refine pu_ HT_ 3 124 (bs_ 41 13) ?_; refine pu_ HT_ 6 127 (bs_ 41 77) ?_; refine pu_ HT_ 9 130 (bs_ 41 589) ?_; refine pu_ HT_ 11 132 (bs_ 41 2637) ?_; refine pu_ HT_ 13 134 (bs_ 41 10829) ?_; refine pu_ HT_ 14 135 (bs_ 41 27213) ?_; refine pu_ HT_ 17 138 (bs_ 41 158285) ?_; refine pu_ HT_ 18 139 (bs_ 41 420429) ?_; refine pu_ HT_ 21 142 (bs_ 41 2517581) ?_; refine pu_ HT_ 23 144 (bs_ 41 10906189) ?_; refine pu_ HT_ 24 145 (bs_ 41 27683405) ?_; refine pu_ HT_ 27 148 (bs_ 41 161901133) ?_; refine pu_ HT_ 31 152 (bs_ 41 2309384781) ?_; refine pu_ HT_ 32 153 (bs_ 41 6604352077) ?_; refine pu_ HT_ 34 155 (bs_ 41 23784221261) ?_; refine tk_ HT_ HW_ 1 122 (bs_ 41 23784221263) hHeld ?_; refine pu_ HT_ 4 125 (bs_ 41 23784221279) ?_; refine tk_ HT_ HW_ 5 126 (bs_ 41 23784221311) hHeld ?_; refine pu_ HT_ 7 128 (bs_ 41 23784221439) ?_; refine tk_ HT_ HW_ 8 129 (bs_ 41 23784221695) hHeld ?_; refine pu_ HT_ 10 131 (bs_ 41 23784222719) ?_; refine tk_ HT_ HW_ 12 133 (bs_ 41 23784226815) hHeld ?_; refine pu_ HT_ 15 136 (bs_ 41 23784259583) ?_; refine tk_ HT_ HW_ 16 137 (bs_ 41 23784325119) hHeld ?_; refine pu_ HT_ 19 140 (bs_ 41 23784849407) ?_; refine tk_ HT_ HW_ 20 141 (bs_ 41 23785897983) hHeld ?_; refine tk_ HT_ HW_ 22 143 (bs_ 41 23790092287) hHeld ?_; refine pu_ HT_ 25 146 (bs_ 41 23823646719) ?_; refine tk_ HT_ HW_ 26 147 (bs_ 41 23890755583) hHeld ?_; refine pu_ HT_ 28 149 (bs_ 41 24159191039) ?_; refine tk_ HT_ HW_ 29 150 (bs_ 41 24696061951) hHeld ?_; refine pu_ HT_ 30 151 (bs_ 41 25769803775) ?_; refine tk_ HT_ HW_ 33 154 (bs_ 41 34359738367) hHeld ?_; refine pu_ HT_ 35 156 (bs_ 41 68719476735) ?_; refine tk_ HT_ HW_ 36 157 (bs_ 41 137438953471) hHeld ?_; refine pu_ HT_ 37 158 (bs_ 41 274877906943) ?_; refine pu_ HT_ 38 159 (bs_ 41 549755813887) ?_; refine pu_ HT_ 39 160 (bs_ 41 1099511627775) ?_; refine pu_ HT_ 40 13 (bs_ 41 2199023255551) ?_
                  refine done_ (done_of HT_.out (by kernel_rfl)) ?_
                  have O4 := h5.out; have O5 := j3.out
                  have G3 := bc0_ a7; have G4 := bc1_ a7; have G5 := bc2_ a7; have G6 := bf_ a7 0; have G7 := bf_ a7 1; have G8 := bf_ a7 2
                  have y9 : 0 ≤ (a6 : Int) := od_
                  have A1 : a6 < (l0_1.length : Int) := od_
                  obtain ⟨D1, L9, j6⟩ := Kd.at_int d5.out a6 y9 A1; obtain rfl : j2 = D1 := (by injection L9)
                  replace j6 := (HB.out.cell (World.block_lt_of_cell? w _ j6)).trans j6
                  replace y9 := eq_true y9; replace A1 := eq_true A1
                  try go_wp2_with (first | ((with_reducible refine gate_callee (f := 75) rfl ?_); refine goesL_ (some 179) rfl rfl Try.func75 (by kernel_rfl) rfl #[.int .i64 (wrap64 ((wrap64 ((wrap64 ((wrap64 ((rd (rd_L1 l0_2 a6) a5) * (wrap64 ((rd l0_0 (a9)) - (rd l0_0 a5))))) + (wrap64 ((wrap64 ((rd (rd_L1 l0_2 a6) (a9)) - (rd (rd_L1 l0_2 a6) a5))) * (wrap64 (a1 - (rd l0_0 a5))))))) * (wrap64 ((rd l0_1 (b0)) - (rd l0_1 a6))))) + (wrap64 ((wrap64 ((wrap64 ((wrap64 ((rd (rd_L1 l0_2 (b0)) a5) * (wrap64 ((rd l0_0 (a9)) - (rd l0_0 a5))))) + (wrap64 ((wrap64 ((rd (rd_L1 l0_2 (b0)) (a9)) - (rd (rd_L1 l0_2 (b0)) a5))) * (wrap64 (a1 - (rd l0_0 a5))))))) - (wrap64 ((wrap64 ((rd (rd_L1 l0_2 a6) a5) * (wrap64 ((rd l0_0 (a9)) - (rd l0_0 a5))))) + (wrap64 ((wrap64 ((rd (rd_L1 l0_2 a6) (a9)) - (rd (rd_L1 l0_2 a6) a5))) * (wrap64 (a1 - (rd l0_0 a5))))))))) * (wrap64 (a2 - (rd l0_1 a6))))))), .int .i64 (wrap64 ((wrap64 ((rd l0_0 (a9)) - (rd l0_0 a5))) * (wrap64 ((rd l0_1 (b0)) - (rd l0_1 a6)))))] rfl (by (try simp only [List.map_toArray, List.map_cons, List.map_nil]); first | done | (simp only [h9, j1]; rfl) | rfl | (simp only [List.length_drop, List.length_take]; rfl)) ?_; (with_reducible refine (spec_l1Frac.calls kj3 (wrap64 ((wrap64 ((wrap64 ((wrap64 ((rd (rd_L1 l0_2 a6) a5) * (wrap64 ((rd l0_0 (a9)) - (rd l0_0 a5))))) + (wrap64 ((wrap64 ((rd (rd_L1 l0_2 a6) (a9)) - (rd (rd_L1 l0_2 a6) a5))) * (wrap64 (a1 - (rd l0_0 a5))))))) * (wrap64 ((rd l0_1 (b0)) - (rd l0_1 a6))))) + (wrap64 ((wrap64 ((wrap64 ((wrap64 ((rd (rd_L1 l0_2 (b0)) a5) * (wrap64 ((rd l0_0 (a9)) - (rd l0_0 a5))))) + (wrap64 ((wrap64 ((rd (rd_L1 l0_2 (b0)) (a9)) - (rd (rd_L1 l0_2 (b0)) a5))) * (wrap64 (a1 - (rd l0_0 a5))))))) - (wrap64 ((wrap64 ((rd (rd_L1 l0_2 a6) a5) * (wrap64 ((rd l0_0 (a9)) - (rd l0_0 a5))))) + (wrap64 ((wrap64 ((rd (rd_L1 l0_2 a6) (a9)) - (rd (rd_L1 l0_2 a6) a5))) * (wrap64 (a1 - (rd l0_0 a5))))))))) * (wrap64 (a2 - (rd l0_1 a6))))))) (wrap64 ((wrap64 ((rd l0_0 (a9)) - (rd l0_0 a5))) * (wrap64 ((rd l0_1 (b0)) - (rd l0_1 a6))))) o5 p6 _ P1.out).mono ?_); rintro e Q2 ⟨rfl, hb⟩; refine ⟨_, rfl, ?_⟩; replace a7 := bl_ a7 hb; replace a8 := bl_ a8 hb; replace HB := bp_ HB hb; (try clear hb); (try clear H8); (try clear hk); (try clear hi); have G9 := bc0_ a8; have H0 := bc1_ a8; have H2 := bf_ a8 0; have H3 := bf_ a8 1))
                  refine bodyPost_ret (results_ct rfl _ _ j7 48 #[.int .i64 o5, .int .i64 p6] (0, 0) _ rfl (by (with_reducible repeat (first | refine blk_drewN ?_ _ | refine blk_drew ?_ | refine blk_alloc ?_ _)); refine blk_put (cs := #[.int .i64 o5, .int .i64 0]) ?_ 1 _ rfl; (with_reducible repeat (first | refine blk_drewN ?_ _ | refine blk_drew ?_ | refine blk_alloc ?_ _)); refine blk_put (cs := #[.int .i64 0, .int .i64 0]) ?_ 0 _ rfl; (with_reducible repeat (first | refine blk_drewN ?_ _ | refine blk_drew ?_ | refine blk_alloc ?_ _)); exact a8.out) Try.underlying48 rfl (by kernel_rfl)) rfl ?_
                  exact ⟨by first | rfl | (simp [errW_none, errW_some] <;> rfl) | (simp only [← h9, ← j1]; first | rfl | (simp [errW_none, errW_some] <;> rfl)) | (simp [*, errW_none, errW_some] <;> rfl), by repeat (first | (with_reducible first | exact HB.out | apply below_alloc | apply pw_below_drewN | apply below_drew1 | refine below_set ?_ o6.out) | exact HB.out)⟩
                 ·rw [if_neg F6] at H
                  exact absurd H (by simp)
                ·rw [if_neg F5] at H
                 exact absurd H (by simp)
               ·rw [if_neg F4] at H
                exact absurd H (by simp)
              ·rw [if_neg F3] at H
               exact absurd H (by simp)
             ·rw [if_neg F2] at H
              exact absurd H (by simp)
            ·rw [if_neg F1] at H
             exact absurd H (by simp)
           ·rw [if_neg F0] at H
            exact absurd H (by simp)
          ·rw [if_neg E9] at H
           exact absurd H (by simp)
         ·rw [if_neg E8] at H
          exact absurd H (by simp)
        ·rw [if_neg E7] at H
         exact absurd H (by simp)
       ·rw [if_neg E6] at H
        exact absurd H (by simp)
      ·rw [if_neg E5] at H
       exact absurd H (by simp)
     ·rw [if_neg E4] at H
      exact absurd H (by simp)
    ·rw [if_neg E3] at H
     exact absurd H (by simp)

end Go.Proofs.Ytnphbpkpjinddaa.QFnExactAtGrid
-- squeezed
