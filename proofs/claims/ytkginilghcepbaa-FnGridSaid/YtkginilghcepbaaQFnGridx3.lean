/- Lean functions that tell what the Go functions used by one law answer, and for each a proof that the Go code comes to just these answers; no condition. Printed by this session's own program over the kit's printer. -/
import Derived.Test.YtkginilghcepbaaWSq
import Derived.Test.YtkginilghcepbaaQFnGridx0
import Derived.Test.YtkginilghcepbaaQFnGridx1
import Derived.Test.YtkginilghcepbaaQFnGridx2
namespace Go.Proofs.Ytkginilghcepbaa.QFnGrid
open Go.RowKit Go.Proofs.YtkginilghcepbaaW.PrintWords Go.Proofs.YtkginilghcepbaaW.PrintLast Go.Proofs.YtkginilghcepbaaW.PrintMore
attribute [local go_sem] max2_int min2_int max_two min_two max_three min_three max_four min_four   -- for this text's walks alone
attribute [local go_sem high] go_eql go_neq go_lss go_leq go_gtr go_geq go_store   -- for this text's walks alone
set_option linter.unusedVariables false
set_option linter.unusedSimpArgs false

/-! ### impl_AtGrid: function 25 -/
def impl_AtGrid.j0 : Nat → Int → Int → Bool → List Int → List Int → List (List Int) → Option (Int × Int × Bool)
 | 0, _, _, _, _, _, _ => none
 | k + 1, x1, x2, L8, c3, d5, b6 => if L8 = true then (some (0, 0, false)) else ((impl_piece.f k c3 x1).bind fun a7 => ((impl_piece.f k d5 x2).bind fun a6 => (if 0 ≤ a7 then (if a7 < (c3.length : Int) then (if 0 ≤ (wrap64 (a7 + 1)) then (if (wrap64 (a7 + 1)) < (c3.length : Int) then (if 0 ≤ a6 then (if a6 < (b6.length : Int) then (if a7 < ((rd_L2 b6 a6).length : Int) then (if (wrap64 (a7 + 1)) < ((rd_L2 b6 a6).length : Int) then ((impl_between.f (rd c3 a7) (rd c3 (wrap64 (a7 + 1))) (rd (rd_L2 b6 a6) a7) (rd (rd_L2 b6 a6) (wrap64 (a7 + 1))) x1).bind fun b8 => (if 0 ≤ (wrap64 (a6 + 1)) then (if (wrap64 (a6 + 1)) < (b6.length : Int) then (if a7 < ((rd_L2 b6 (wrap64 (a6 + 1))).length : Int) then (if (wrap64 (a7 + 1)) < ((rd_L2 b6 (wrap64 (a6 + 1))).length : Int) then ((impl_between.f (rd c3 a7) (rd c3 (wrap64 (a7 + 1))) (rd (rd_L2 b6 (wrap64 (a6 + 1))) a7) (rd (rd_L2 b6 (wrap64 (a6 + 1))) (wrap64 (a7 + 1))) x1).bind fun c2 => (if a6 < (d5.length : Int) then (if (wrap64 (a6 + 1)) < (d5.length : Int) then ((impl_between.f (rd d5 a6) (rd d5 (wrap64 (a6 + 1))) b8.1 c2.1 x2).bind fun b4 => ((impl_frac.f k b4.1 (wrap64 (b8.2 * b4.2))).bind fun b2 => (some (b2.1, b2.2, true)))) else (none)) else (none))) else (none)) else (none)) else (none)) else (none))) else (none)) else (none)) else (none)) else (none)) else (none)) else (none)) else (none)) else (none))))
def impl_AtGrid.f (k : Nat) (l0_0 : List Int) (l0_1 : List Int) (l0_2 : List (List Int)) (a1 : Int) (a2 : Int) : Option (Int × Int × Bool) := (impl_GridOk.f k l0_0 l0_1 l0_2).bind fun n8 => (if n8 = true then (if 0 < (l0_0.length : Int) then (if 0 ≤ (wrap64 ((l0_0.length : Int) - 1)) then (if (wrap64 ((l0_0.length : Int) - 1)) < (l0_0.length : Int) then ((impl_in.f a1 (rd l0_0 0) (rd l0_0 (wrap64 ((l0_0.length : Int) - 1)))).bind fun j1 => (if j1 = true then (if 0 < (l0_1.length : Int) then (if 0 ≤ (wrap64 ((l0_1.length : Int) - 1)) then (if (wrap64 ((l0_1.length : Int) - 1)) < (l0_1.length : Int) then ((impl_in.f a2 (rd l0_1 0) (rd l0_1 (wrap64 ((l0_1.length : Int) - 1)))).bind fun c4 => (impl_AtGrid.j0 k a1 a2 (!c4) l0_0 l0_1 l0_2)) else (none)) else (none)) else (none)) else (impl_AtGrid.j0 k a1 a2 true l0_0 l0_1 l0_2))) else (none)) else (none)) else (none)) else (impl_AtGrid.j0 k a1 a2 true l0_0 l0_1 l0_2))
theorem impl_AtGrid.mono_l : ∀ k, (∀ y0 y1 y2 y3 y4 y5, LeO (impl_AtGrid.j0 k y0 y1 y2 y3 y4 y5) (impl_AtGrid.j0 (k + 1) y0 y1 y2 y3 y4 y5))
 | 0 => fun _ _ _ _ _ _ r h => by simp [impl_AtGrid.j0] at h
 | k + 1 => by
  have t4 := impl_AtGrid.mono_l k
  ·intro y0 y1 y2 y3 y4 y5
   unfold impl_AtGrid.j0
   repeat' first
   | (with_reducible exact t4 _ _ _ _ _ _)
   | (with_reducible exact impl_GridOk.mono _ _ _ _)
   | (with_reducible exact impl_frac.mono _ _ _)
   | (with_reducible exact impl_piece.mono _ _ _)
   | (with_reducible exact LeO.refl _)
   | (with_reducible exact LeO.none _)
   | (with_reducible refine LeO.ite ?_ ?_)
   | (with_reducible refine LeO.bind ?_ (fun _ => ?_))
   | exact t4 _ _ _ _ _ _
   | exact impl_GridOk.mono _ _ _ _
   | exact impl_frac.mono _ _ _
   | exact impl_piece.mono _ _ _
   | exact LeO.none _
   | refine LeO.ite ?_ ?_
   | refine LeO.bind ?_ (fun _ => ?_)
theorem impl_AtGrid.mono : ∀ a0 a1 a2 a3 a4 k, LeO (impl_AtGrid.f k a0 a1 a2 a3 a4) (impl_AtGrid.f (k + 1) a0 a1 a2 a3 a4) := by
 intro a0 a1 a2 a3 a4 k
 have t4 := impl_AtGrid.mono_l k
 unfold impl_AtGrid.f
 repeat' first
   | (with_reducible exact t4 _ _ _ _ _ _)
   | (with_reducible exact impl_GridOk.mono _ _ _ _)
   | (with_reducible exact impl_frac.mono _ _ _)
   | (with_reducible exact impl_piece.mono _ _ _)
   | (with_reducible exact LeO.refl _)
   | (with_reducible exact LeO.none _)
   | (with_reducible refine LeO.ite ?_ ?_)
   | (with_reducible refine LeO.bind ?_ (fun _ => ?_))
   | exact t4 _ _ _ _ _ _
   | exact impl_GridOk.mono _ _ _ _
   | exact impl_frac.mono _ _ _
   | exact impl_piece.mono _ _ _
   | exact LeO.none _
   | refine LeO.ite ?_ ?_
   | refine LeO.bind ?_ (fun _ => ?_)
def impl_AtGrid.T1 : Bool × List (List Nat × List Nat) := (true, [([], []), ([0], [0]), ([1], [1]), ([2, 1], [2]), ([3], [3]), ([3], [3]), ([5, 3], [3, 5]), ([6, 3], [3, 6]), ([7, 3], [3, 7]), ([3], [3]), ([9, 3], [3, 9]), ([3], [3]), ([11, 3], [3, 11]), ([12, 3], [3, 12]), ([13, 3], [3, 13]), ([10, 14, 3], [3, 10, 14]), ([15, 3], [3, 15]), ([4, 8, 16, 3, 3], [3, 4, 8, 16]), ([17, 3], [3, 17]), ([3, 18], [3, 18]), ([19, 17], [19]), ([20], [20]), ([20], [20]), ([22, 20], [20, 22]), ([23, 20], [20, 23]), ([24, 20], [20, 24]), ([20], [20]), ([26, 20], [20, 26]), ([20], [20]), ([28, 20], [20, 28]), ([29, 20], [20, 29]), ([30, 20], [20, 30]), ([27, 31, 20], [20, 27, 31]), ([32, 20], [20, 32]), ([21, 25, 33, 20, 20], [20, 21, 25, 33]), ([34, 20], [20, 34]), ([20, 35], [20, 35])])
def impl_AtGrid.B1 : List Nat := [0, 1, 3, 7, 15, 15, 47, 111, 239, 15, 527, 15, 2063, 6159, 14351, 32271, 65039, 131071, 262143, 524287, 1048575, 2097151, 2097151, 6291455, 14680063, 31457279, 2097151, 69206015, 2097151, 270532607, 807403519, 1881145343, 4229955583, 8524922879, 17179869183, 34359738367, 68719476735]
theorem impl_AtGrid.tab1 : rtab .any (opsOf Try.f25 1) = impl_AtGrid.T1 := by kernel_rfl
theorem impl_AtGrid.bits1 : waitsOk impl_AtGrid.T1.2 impl_AtGrid.B1 = true := by kernel_rfl
def impl_AtGrid.T3 : Bool × List (List Nat × List Nat) := (true, [([], []), ([0], [0]), ([], []), ([1, 2], [1, 2]), ([], []), ([4], [4]), ([], []), ([5, 6, 3], [5, 6]), ([3, 7, 0, 1, 2, 3], [3]), ([7, 8, 0, 1, 2, 3, 4, 5, 6, 7, 8], [7])])
def impl_AtGrid.B3 : List Nat := [0, 1, 0, 7, 0, 16, 0, 127, 255, 511]
theorem impl_AtGrid.tab3 : rtab .any (opsOf Try.f25 3) = impl_AtGrid.T3 := by kernel_rfl
theorem impl_AtGrid.bits3 : waitsOk impl_AtGrid.T3.2 impl_AtGrid.B3 = true := by kernel_rfl
def impl_AtGrid.T4 : Bool × List (List Nat × List Nat) := (true, [([], []), ([0], [0]), ([], []), ([1, 2], [1, 2]), ([3], [3]), ([], []), ([5], [5]), ([], []), ([7], [7]), ([6, 8], [6, 8]), ([9], [9]), ([], []), ([11], [11]), ([], []), ([12, 13], [12, 13]), ([14], [14]), ([], []), ([15, 16], [15, 16]), ([17], [17]), ([], []), ([19], [19]), ([], []), ([20, 21], [20, 21]), ([22], [22]), ([], []), ([24], [24]), ([23, 25], [23, 25]), ([26], [26]), ([], []), ([4, 10, 18, 27, 28], [4, 10, 18, 27, 28]), ([29], [29]), ([30], [30]), ([30], [30]), ([31, 29, 0, 1, 2, 3, 4, 5, 6, 7, 8, 9, 10, 11, 12, 13, 14, 15, 16, 17, 18, 19, 20, 21, 22, 23, 24, 25, 26, 27, 28, 29, 30, 31], [31]), ([32, 33, 0, 1, 2, 3, 4, 5, 6, 7, 8, 9, 10, 11, 12, 13, 14, 15, 16, 17, 18, 19, 20, 21, 22, 23, 24, 25, 26, 27, 28, 29, 30, 31, 32, 33], [32])])
def impl_AtGrid.B4 : List Nat := [0, 1, 0, 7, 15, 0, 32, 0, 128, 480, 992, 0, 2048, 0, 14336, 30720, 0, 129024, 260096, 0, 524288, 0, 3670016, 7864320, 0, 16777216, 66584576, 133693440, 0, 536870911, 1073741823, 2147483647, 2147483647, 4294967295, 17179869183]
theorem impl_AtGrid.tab4 : rtab .any (opsOf Try.f25 4) = impl_AtGrid.T4 := by kernel_rfl
theorem impl_AtGrid.bits4 : waitsOk impl_AtGrid.T4.2 impl_AtGrid.B4 = true := by kernel_rfl
def impl_AtGrid.T5 : Bool × List (List Nat × List Nat) := (true, [([], []), ([0], [0]), ([], []), ([1, 2], [1, 2]), ([3], [3]), ([], []), ([5], [5]), ([], []), ([7], [7]), ([6, 8], [6, 8]), ([9], [9]), ([], []), ([11], [11]), ([], []), ([13], [13]), ([12, 14], [12, 14]), ([15], [15]), ([], []), ([16, 17], [16, 17]), ([18], [18]), ([], []), ([20], [20]), ([], []), ([22], [22]), ([21, 23], [21, 23]), ([24], [24]), ([], []), ([26], [26]), ([25, 27], [25, 27]), ([28], [28]), ([], []), ([4, 10, 19, 29, 30], [4, 10, 19, 29, 30]), ([31], [31]), ([32], [32]), ([32], [32]), ([33, 31, 0, 1, 2, 3, 4, 5, 6, 7, 8, 9, 10, 11, 12, 13, 14, 15, 16, 17, 18, 19, 20, 21, 22, 23, 24, 25, 26, 27, 28, 29, 30, 31, 32, 33], [33]), ([34, 35, 0, 1, 2, 3, 4, 5, 6, 7, 8, 9, 10, 11, 12, 13, 14, 15, 16, 17, 18, 19, 20, 21, 22, 23, 24, 25, 26, 27, 28, 29, 30, 31, 32, 33, 34, 35], [34])])
def impl_AtGrid.B5 : List Nat := [0, 1, 0, 7, 15, 0, 32, 0, 128, 480, 992, 0, 2048, 0, 8192, 30720, 63488, 0, 260096, 522240, 0, 1048576, 0, 4194304, 15728640, 32505856, 0, 67108864, 267386880, 535822336, 0, 2147483647, 4294967295, 8589934591, 8589934591, 17179869183, 68719476735]
theorem impl_AtGrid.tab5 : rtab .any (opsOf Try.f25 5) = impl_AtGrid.T5 := by kernel_rfl
theorem impl_AtGrid.bits5 : waitsOk impl_AtGrid.T5.2 impl_AtGrid.B5 = true := by kernel_rfl
def impl_AtGrid.T6 : Bool × List (List Nat × List Nat) := (true, [([], []), ([0], [0]), ([], []), ([1, 2], [1, 2]), ([3], [3]), ([], []), ([5], [5]), ([], []), ([7], [7]), ([6, 8], [6, 8]), ([9], [9]), ([], []), ([], []), ([], []), ([4, 10, 11, 12, 13], [4, 10, 11, 12, 13]), ([14], [14]), ([15], [15]), ([15], [15]), ([16, 14, 0, 1, 2, 3, 4, 5, 6, 7, 8, 9, 10, 11, 12, 13, 14, 15, 16], [16]), ([17, 18, 0, 1, 2, 3, 4, 5, 6, 7, 8, 9, 10, 11, 12, 13, 14, 15, 16, 17, 18], [17])])
def impl_AtGrid.B6 : List Nat := [0, 1, 0, 7, 15, 0, 32, 0, 128, 480, 992, 0, 0, 0, 16383, 32767, 65535, 65535, 131071, 524287]
theorem impl_AtGrid.tab6 : rtab .any (opsOf Try.f25 6) = impl_AtGrid.T6 := by kernel_rfl
theorem impl_AtGrid.bits6 : waitsOk impl_AtGrid.T6.2 impl_AtGrid.B6 = true := by kernel_rfl
set_option maxHeartbeats 8000000 in
set_option maxRecDepth 100000 in
theorem impl_AtGrid.calls (k : Nat) (A0_0 : Option Addr) (c0_0 : Nat) (l0_0 : List Int) (A0_1 : Option Addr) (c0_1 : Nat) (l0_1 : List Int) (A0_2 : Option Addr) (c0_2 : Nat) (l0_2 : List (List Int)) (a1 : Int) (a2 : Int) (r1 : Int) (r2 : Int) (r3 : Bool) (w : World) (hr0_0 : Kd.C (Kd.int .i64) w A0_0 l0_0.length l0_0) (hc0_0 : l0_0.length ≤ c0_0) (hr0_1 : Kd.C (Kd.int .i64) w A0_1 l0_1.length l0_1) (hc0_1 : l0_1.length ≤ c0_1) (hr0_2 : Kd.C (Kd.slice 3 (Kd.int .i64)) w A0_2 l0_2.length l0_2) (hc0_2 : l0_2.length ≤ c0_2) (h : impl_AtGrid.f k l0_0 l0_1 l0_2 a1 a2 = some (r1, r2, r3)) :
  Calls Try.prog 25 #[.agg #[.slice A0_0 l0_0.length c0_0, .slice A0_1 l0_1.length c0_1, .slice A0_2 l0_2.length c0_2], .int .i64 a1, .int .i64 a2] w fun e w' => e = .returned (.tuple #[.agg #[.int .i64 r1, .int .i64 r2], .bool r3]) ∧ Below w.heap.size w w' := by
 have L9 := Try.underlying50
 have M0 := Try.underlying26
 have c6 := mk_ hr0_0; have m2 := mk_ hc0_0; clear hr0_0 hc0_0; have h5 := mk_ hr0_1; have m3 := mk_ hc0_1; clear hr0_1 hc0_1; have j2 := mk_ hr0_2; have o0 := mk_ hc0_2; clear hr0_2 hc0_2; have HB := mk_ (Below.refl w.heap.size w)
 have H : ((impl_GridOk.f k l0_0 l0_1 l0_2).bind fun n8 => (if n8 = true then (if 0 < (l0_0.length : Int) then (if 0 ≤ (wrap64 ((l0_0.length : Int) - 1)) then (if (wrap64 ((l0_0.length : Int) - 1)) < (l0_0.length : Int) then ((impl_in.f a1 (rd l0_0 0) (rd l0_0 (wrap64 ((l0_0.length : Int) - 1)))).bind fun j1 => (if j1 = true then (if 0 < (l0_1.length : Int) then (if 0 ≤ (wrap64 ((l0_1.length : Int) - 1)) then (if (wrap64 ((l0_1.length : Int) - 1)) < (l0_1.length : Int) then ((impl_in.f a2 (rd l0_1 0) (rd l0_1 (wrap64 ((l0_1.length : Int) - 1)))).bind fun c4 => (impl_AtGrid.j0 k a1 a2 (!c4) l0_0 l0_1 l0_2)) else (none)) else (none)) else (none)) else (impl_AtGrid.j0 k a1 a2 true l0_0 l0_1 l0_2))) else (none)) else (none)) else (none)) else (impl_AtGrid.j0 k a1 a2 true l0_0 l0_1 l0_2))) = some (r1, r2, r3) := h
 clear h; have F2 := mk_ H; clear H
 go_enter Try.func25, Try.ntmps25
 go_upto_region 1 with (first | ((with_reducible refine gd_ 3 rfl ?_); (try (refine gate_guard (by rfl) ?_; dsimp only)); refine box_event ?hg (N := 3) ?hd (cs := #[.slice A0_0 l0_0.length c0_0, .slice A0_1 l0_1.length c0_1, .slice A0_2 l0_2.length c0_2]) (t := 50) ?hr ?_; (case hd => rfl); (case hg => rfl); (case hr => exact hr_); intro b1 hg w5 hbox hb; have a5 := mk_ (hbox); have t5 := gb_ hg HB; replace HB := bp_ HB hb; have I1 := t5; clear hb hbox hg) | ((with_reducible refine gd_ 6 rfl ?_); (try (refine gate_guard (by rfl) ?_; dsimp only)); refine box_event ?hg (N := 6) ?hd (cs := #[.int .i64 0, .int .i64 0]) (t := 26) ?hr ?_; (case hd => rfl); (case hg => rfl); (case hr => exact hr_); intro d6 hg w6 hbox hb; have a8 := mk_ (hbox); have t6 := gb_ hg HB; replace HB := bp_ HB hb; have o8 := t6; have h4 := nb_ hg a5; replace a5 := bl_ a5 hb; have j3 := ns_ h4; clear hb hbox hg))
 (try simp only [Act.put, List.setIfInBounds_toArray, List.set_cons_zero, List.set_cons_succ])
 go_cut [52] (fun v52 wc => ∃ (kq : Nat) (m4 : Bool), v52 = .bool m4 ∧ Aside0 (impl_AtGrid.j0 kq a1 a2 m4 l0_0 l0_1 l0_2 = some (r1, r2, r3)) ∧ Aside0 (kq ≤ k) ∧ Aside0 (wc.heap[b1]? = some (.cells #[(.slice A0_0 l0_0.length c0_0), (.slice A0_1 l0_1.length c0_1), (.slice A0_2 l0_2.length c0_2)] 50 (0, 0))) ∧ Aside0 (wc.heap[d6]? = some (.cells #[.int .i64 0, .int .i64 0] 26 (0, 0))) ∧ Aside0 (Below w.heap.size w wc))
 case first => as_aux_lemma =>
  have H := F2.out; clear F2; replace H := Option.bind_eq_some_iff.mp H; obtain ⟨n8, I2, H⟩ := H
  replace H : (if n8 = true then (if 0 < (l0_0.length : Int) then (if 0 ≤ (wrap64 ((l0_0.length : Int) - 1)) then (if (wrap64 ((l0_0.length : Int) - 1)) < (l0_0.length : Int) then ((impl_in.f a1 (rd l0_0 0) (rd l0_0 (wrap64 ((l0_0.length : Int) - 1)))).bind fun j1 => (if j1 = true then (if 0 < (l0_1.length : Int) then (if 0 ≤ (wrap64 ((l0_1.length : Int) - 1)) then (if (wrap64 ((l0_1.length : Int) - 1)) < (l0_1.length : Int) then ((impl_in.f a2 (rd l0_1 0) (rd l0_1 (wrap64 ((l0_1.length : Int) - 1)))).bind fun c4 => (impl_AtGrid.j0 k a1 a2 (!c4) l0_0 l0_1 l0_2)) else (none)) else (none)) else (none)) else (impl_AtGrid.j0 k a1 a2 true l0_0 l0_1 l0_2))) else (none)) else (none)) else (none)) else (impl_AtGrid.j0 k a1 a2 true l0_0 l0_1 l0_2)) = some (r1, r2, r3) := H
  have A7 := mk_ I2; clear I2; by_cases c8 : n8 = true
  ·subst c8
   have H1 : (if 0 < (l0_0.length : Int) then (if 0 ≤ (wrap64 ((l0_0.length : Int) - 1)) then (if (wrap64 ((l0_0.length : Int) - 1)) < (l0_0.length : Int) then ((impl_in.f a1 (rd l0_0 0) (rd l0_0 (wrap64 ((l0_0.length : Int) - 1)))).bind fun j1 => (if j1 = true then (if 0 < (l0_1.length : Int) then (if 0 ≤ (wrap64 ((l0_1.length : Int) - 1)) then (if (wrap64 ((l0_1.length : Int) - 1)) < (l0_1.length : Int) then ((impl_in.f a2 (rd l0_1 0) (rd l0_1 (wrap64 ((l0_1.length : Int) - 1)))).bind fun c4 => (impl_AtGrid.j0 k a1 a2 (!c4) l0_0 l0_1 l0_2)) else (none)) else (none)) else (none)) else (impl_AtGrid.j0 k a1 a2 true l0_0 l0_1 l0_2))) else (none)) else (none)) else (none)) = some (r1, r2, r3) := by rw [if_pos rfl] at H; exact H
   clear H
   have H := H1
   clear H1; by_cases c9 : 0 < (l0_0.length : Int)
   ·rw [if_pos c9] at H; have t7 : decide (0 < (l0_0.length : Int)) = true := decide_eq_true c9; have M1 : decide (0 < l0_0.length) = true := decide_eq_true (by omega); clear c9
    (first | rw [t7] | (simp only [i64_w, i32_w]; rw [t7]) | skip)
    obtain ⟨b7, j4⟩ : ∃ j_ : Int, (wrap64 ((l0_0.length : Int) - 1)) = j_ := ⟨_, rfl⟩
    replace H : (if 0 ≤ (b7) then (if (b7) < (l0_0.length : Int) then ((impl_in.f a1 (rd l0_0 0) (rd l0_0 (b7))).bind fun j1 => (if j1 = true then (if 0 < (l0_1.length : Int) then (if 0 ≤ (wrap64 ((l0_1.length : Int) - 1)) then (if (wrap64 ((l0_1.length : Int) - 1)) < (l0_1.length : Int) then ((impl_in.f a2 (rd l0_1 0) (rd l0_1 (wrap64 ((l0_1.length : Int) - 1)))).bind fun c4 => (impl_AtGrid.j0 k a1 a2 (!c4) l0_0 l0_1 l0_2)) else (none)) else (none)) else (none)) else (impl_AtGrid.j0 k a1 a2 true l0_0 l0_1 l0_2))) else (none)) else (none)) = some (r1, r2, r3) := by first | (rw [j4] at H; exact H) | (simp only [j4] at H ⊢; exact H)
    (try rw [j4] at A7)
    have hji10w : (IntKind.i64.wrap ((l0_0.length : Int) - 1)) = b7 := (i64_w _).trans j4
    by_cases B9 : 0 ≤ (b7)
    ·rw [if_pos B9] at H; have I3 : decide (0 ≤ (b7)) = true := decide_eq_true B9; clear B9; by_cases C0 : (b7) < (l0_0.length : Int)
     ·rw [if_pos C0] at H; have I4 : decide ((b7) < (l0_0.length : Int)) = true := decide_eq_true C0; clear C0; replace H := Option.bind_eq_some_iff.mp H; obtain ⟨j1, t8, H⟩ := H
      replace H : (if j1 = true then (if 0 < (l0_1.length : Int) then (if 0 ≤ (wrap64 ((l0_1.length : Int) - 1)) then (if (wrap64 ((l0_1.length : Int) - 1)) < (l0_1.length : Int) then ((impl_in.f a2 (rd l0_1 0) (rd l0_1 (wrap64 ((l0_1.length : Int) - 1)))).bind fun c4 => (impl_AtGrid.j0 k a1 a2 (!c4) l0_0 l0_1 l0_2)) else (none)) else (none)) else (none)) else (impl_AtGrid.j0 k a1 a2 true l0_0 l0_1 l0_2)) = some (r1, r2, r3) := H
      have F3 := mk_ t8; clear t8; by_cases C1 : j1 = true
      ·subst C1
       have H1 : (if 0 < (l0_1.length : Int) then (if 0 ≤ (wrap64 ((l0_1.length : Int) - 1)) then (if (wrap64 ((l0_1.length : Int) - 1)) < (l0_1.length : Int) then ((impl_in.f a2 (rd l0_1 0) (rd l0_1 (wrap64 ((l0_1.length : Int) - 1)))).bind fun c4 => (impl_AtGrid.j0 k a1 a2 (!c4) l0_0 l0_1 l0_2)) else (none)) else (none)) else (none)) = some (r1, r2, r3) := by rw [if_pos rfl] at H; exact H
       clear H
       have H := H1
       clear H1; by_cases C2 : 0 < (l0_1.length : Int)
       ·rw [if_pos C2] at H; have I5 : decide (0 < (l0_1.length : Int)) = true := decide_eq_true C2; have I6 : decide (0 < l0_1.length) = true := decide_eq_true (by omega); clear C2
        obtain ⟨d4, j5⟩ : ∃ j_ : Int, (wrap64 ((l0_1.length : Int) - 1)) = j_ := ⟨_, rfl⟩
        replace H : (if 0 ≤ (d4) then (if (d4) < (l0_1.length : Int) then ((impl_in.f a2 (rd l0_1 0) (rd l0_1 (d4))).bind fun c4 => (impl_AtGrid.j0 k a1 a2 (!c4) l0_0 l0_1 l0_2)) else (none)) else (none)) = some (r1, r2, r3) := by first | (rw [j5] at H; exact H) | (simp only [j5] at H ⊢; exact H)
        (try rw [j5] at A7)
        (try rw [j5] at F3)
        have hji16w : (IntKind.i64.wrap ((l0_1.length : Int) - 1)) = d4 := (i64_w _).trans j5
        by_cases C3 : 0 ≤ (d4)
        ·rw [if_pos C3] at H; have I7 : decide (0 ≤ (d4)) = true := decide_eq_true C3; clear C3; by_cases C4 : (d4) < (l0_1.length : Int)
         ·rw [if_pos C4] at H; have I8 : decide ((d4) < (l0_1.length : Int)) = true := decide_eq_true C4; clear C4; replace H := Option.bind_eq_some_iff.mp H; obtain ⟨c4, t9, H⟩ := H
          replace H : (impl_AtGrid.j0 k a1 a2 (!c4) l0_0 l0_1 l0_2) = some (r1, r2, r3) := H
          have M2 := mk_ t9; clear t9
          have H' := mk_ H
          clear H
          try go_wp2
          replace a5 := dB_ a5; replace a8 := dB_ a8; replace HB := dH_ HB
          have l7 : 0 ≤ (0 : Int) := (by omega)
          have l8 : 0 < (l0_0.length : Int) := od_
          obtain ⟨c7, o9, b3⟩ := Kd.at_int c6.out 0 l7 l8
          have hw121_0 := b3
          (try rw [show ((0 : Int)).toNat = 0 from rfl] at hw121_0)
          (try rw [show 0 * 1 = 0 from rfl] at hw121_0)
          (try rw [Addr.add_zero'] at hw121_0)
          cases o9
          have qi121 : (0 < l0_0.length) = True := eq_true (by omega)
          (try rw [show ((0 : Int)).toNat = 0 from rfl] at b3)
          (try rw [Addr.add_zero'] at b3)
          replace b3 := (HB.out.cell (World.block_lt_of_cell? w _ b3)).trans b3
          replace l7 := eq_true l7; replace l8 := eq_true l8
          have l9 : 0 ≤ ((b7) : Int) := od_
          have m0 : (b7) < (l0_0.length : Int) := od_
          obtain ⟨o1, p0, b5⟩ := Kd.at_int c6.out (b7) l9 m0
          have hw122_0 := b5
          obtain rfl : c7 = o1 := (by injection p0)
          replace b5 := (HB.out.cell (World.block_lt_of_cell? w _ b5)).trans b5
          replace l9 := eq_true l9; replace m0 := eq_true m0
          have p1 : 0 ≤ (0 : Int) := (by omega)
          have p2 : 0 < (l0_1.length : Int) := od_
          obtain ⟨j6, F4, c5⟩ := Kd.at_int h5.out 0 p1 p2
          have hw124_0 := c5
          (try rw [show ((0 : Int)).toNat = 0 from rfl] at hw124_0)
          (try rw [show 0 * 1 = 0 from rfl] at hw124_0)
          (try rw [Addr.add_zero'] at hw124_0)
          cases F4
          have qi124 : (0 < l0_1.length) = True := eq_true (by omega)
          (try rw [show ((0 : Int)).toNat = 0 from rfl] at c5)
          (try rw [Addr.add_zero'] at c5)
          replace c5 := (HB.out.cell (World.block_lt_of_cell? w _ c5)).trans c5
          replace p1 := eq_true p1; replace p2 := eq_true p2
          have p3 : 0 ≤ ((d4) : Int) := od_
          have p4 : (d4) < (l0_1.length : Int) := od_
          obtain ⟨y6, F5, d7⟩ := Kd.at_int h5.out (d4) p3 p4
          have hw125_0 := d7
          obtain rfl : j6 = y6 := (by injection F5)
          replace d7 := (HB.out.cell (World.block_lt_of_cell? w _ d7)).trans d7
          replace p3 := eq_true p3; replace p4 := eq_true p4
          refine start_ (n := 37) (S := fun w' => w'.cell? ⟨b1, 0, none⟩ = some (.slice (some c7) l0_0.length c0_0) ∧ w'.cell? ⟨b1, 1, none⟩ = some (.slice (some j6) l0_1.length c0_1) ∧ w'.cell? ⟨b1, 2, none⟩ = some (.slice A0_2 l0_2.length c0_2) ∧ w'.cell? c7 = some (.int .i64 (rd l0_0 0)) ∧ w'.cell? (c7.add ((b7)).toNat) = some (.int .i64 (rd l0_0 (b7))) ∧ w'.cell? j6 = some (.int .i64 (rd l0_1 0)) ∧ w'.cell? (j6.add ((d4)).toNat) = some (.int .i64 (rd l0_1 (d4)))) (ds := []) (bs_ 37 0) (by kernel_rfl) rfl (by kernel_rfl) ⟨bc0_ a5, bc1_ a5, bc2_ a5, ((HB.out.cell (World.block_lt_of_cell? w _ hw121_0)).trans hw121_0), ((HB.out.cell (World.block_lt_of_cell? w _ hw122_0)).trans hw122_0), ((HB.out.cell (World.block_lt_of_cell? w _ hw124_0)).trans hw124_0), ((HB.out.cell (World.block_lt_of_cell? w _ hw125_0)).trans hw125_0)⟩ (fun hHeld => ?_); refine with_tabW impl_AtGrid.tab1 impl_AtGrid.bits1 (fun HT_ HW_ => ?_)
          generalize w6.drew = M6 at a5 a8 HB b3 b5 c5 d7 hHeld ⊢
          refine tk_ HT_ HW_ 0 16 (bs_ 37 1) hHeld ?_
          refine one_ (i := 1) (N := some 17) (bs_ 37 3) rfl rfl (one_of HT_.out (by kernel_rfl)) (by decide) (fun K hK => ?_)
          refine gs_ Try.func26 #[.agg #[.slice (some c7) l0_0.length c0_0, .slice (some j6) l0_1.length c0_1, .slice A0_2 l0_2.length c0_2]] ?_
          with_reducible refine (impl_GridOk.calls k _ _ l0_0 _ _ l0_1 _ _ l0_2 true _ ?d8 ?d9 ?j7 ?j8 ?j9 ?l1 A7.out).mono ?_
          (case d8 => exact cw_ (Kd.C_below c6.out HB.out))
          (case d9 => exact m2.out)
          (case j7 => exact cw_ (Kd.C_below h5.out HB.out))
          (case j8 => exact m3.out)
          (case j9 => exact cw_ (Kd.C_below j2.out HB.out))
          (case l1 => exact o0.out)
          rintro e M7 ⟨rfl, hb⟩
          refine ⟨_, rfl, ?_⟩
          replace a5 := bk_ a5 hb; replace a8 := bk_ a8 hb; replace HB := hk_ HB hb
          (try clear hb); (try clear F6); (try clear hk); (try clear hi)
          refine hK.out _ _ ⟨bc0_ a5, bc1_ a5, bc2_ a5, ((HB.out.cell (World.block_lt_of_cell? w _ hw121_0)).trans hw121_0), ((HB.out.cell (World.block_lt_of_cell? w _ hw122_0)).trans hw122_0), ((HB.out.cell (World.block_lt_of_cell? w _ hw124_0)).trans hw124_0), ((HB.out.cell (World.block_lt_of_cell? w _ hw125_0)).trans hw125_0)⟩ (fun hHeld => ?_)
          clear hK K; refine nm_ 17 ?_; refine pu_ HT_ 2 18 (bs_ 37 7) ?_; refine pu_ HT_ 3 19 (bs_ 37 15) ?_; refine pu_ HT_ 4 20 (bs_ 37 31) ?_; refine pu_ HT_ 5 21 (bs_ 37 63) ?_; refine pu_ HT_ 9 25 (bs_ 37 575) ?_; refine pu_ HT_ 11 27 (bs_ 37 2623) ?_; refine tk_ HT_ HW_ 6 22 (bs_ 37 2687) hHeld ?_; refine pu_ HT_ 7 23 (bs_ 37 2815) ?_; refine tk_ HT_ HW_ 8 24 (bs_ 37 3071) hHeld ?_; refine tk_ HT_ HW_ 10 26 (bs_ 37 4095) hHeld ?_; refine tk_ HT_ HW_ 12 28 (bs_ 37 8191) hHeld ?_; refine pu_ HT_ 13 29 (bs_ 37 16383) ?_; refine pu_ HT_ 14 30 (bs_ 37 32767) ?_; refine pu_ HT_ 15 31 (bs_ 37 65535) ?_; refine tk_ HT_ HW_ 16 32 (bs_ 37 131071) hHeld ?_
          refine one_ (i := 17) (N := some 33) (bs_ 37 262143) rfl rfl (one_of HT_.out (by kernel_rfl)) (by decide) (fun K hK => ?_)
          refine goes_ Try.func65 (by kernel_rfl) rfl #[.int .i64 a1, .int .i64 (rd l0_0 0), .int .i64 (rd l0_0 (b7))] (by rfl) rfl rfl (by (try simp only [List.map_toArray, List.map_cons, List.map_nil]); first | done | (simp only [j4]; rfl) | rfl | (simp only [List.length_drop, List.length_take]; rfl)) ?_
          with_reducible refine (impl_in.calls a1 (rd l0_0 0) (rd l0_0 (b7)) true _ F3.out).mono ?_
          rintro e w' ⟨rfl, ⟨nd, rfl⟩⟩
          refine ⟨_, rfl, ?_⟩
          refine hK.out _ _ ⟨bc0_ a5, bc1_ a5, bc2_ a5, ((HB.out.cell (World.block_lt_of_cell? w _ hw121_0)).trans hw121_0), ((HB.out.cell (World.block_lt_of_cell? w _ hw122_0)).trans hw122_0), ((HB.out.cell (World.block_lt_of_cell? w _ hw124_0)).trans hw124_0), ((HB.out.cell (World.block_lt_of_cell? w _ hw125_0)).trans hw125_0)⟩ (fun hHeld => ?_)
          clear hK K; refine nm_ 33 ?_; refine pu_ HT_ 18 34 (bs_ 37 524287) ?_; refine pu_ HT_ 19 35 (bs_ 37 1048575) ?_; refine pu_ HT_ 20 36 (bs_ 37 2097151) ?_; refine pu_ HT_ 21 37 (bs_ 37 4194303) ?_; refine pu_ HT_ 22 38 (bs_ 37 8388607) ?_; refine pu_ HT_ 26 42 (bs_ 37 75497471) ?_; refine pu_ HT_ 28 44 (bs_ 37 343932927) ?_; refine tk_ HT_ HW_ 23 39 (bs_ 37 352321535) hHeld ?_; refine pu_ HT_ 24 40 (bs_ 37 369098751) ?_; refine tk_ HT_ HW_ 25 41 (bs_ 37 402653183) hHeld ?_; refine tk_ HT_ HW_ 27 43 (bs_ 37 536870911) hHeld ?_; refine tk_ HT_ HW_ 29 45 (bs_ 37 1073741823) hHeld ?_; refine pu_ HT_ 30 46 (bs_ 37 2147483647) ?_; refine pu_ HT_ 31 47 (bs_ 37 4294967295) ?_; refine pu_ HT_ 32 48 (bs_ 37 8589934591) ?_; refine tk_ HT_ HW_ 33 49 (bs_ 37 17179869183) hHeld ?_
          refine one_ (i := 34) (N := some 50) (bs_ 37 34359738367) rfl rfl (one_of HT_.out (by kernel_rfl)) (by decide) (fun K hK => ?_)
          refine goes_ Try.func65 (by kernel_rfl) rfl #[.int .i64 a2, .int .i64 (rd l0_1 0), .int .i64 (rd l0_1 (d4))] (by rfl) rfl rfl (by (try simp only [List.map_toArray, List.map_cons, List.map_nil]); first | done | (simp only [j5]; rfl) | rfl | (simp only [List.length_drop, List.length_take]; rfl)) ?_
          with_reducible refine (impl_in.calls a2 (rd l0_1 0) (rd l0_1 (d4)) c4 _ M2.out).mono ?_
          rintro e w' ⟨rfl, ⟨nd, rfl⟩⟩
          refine ⟨_, rfl, ?_⟩
          refine hK.out _ _ ⟨bc0_ a5, bc1_ a5, bc2_ a5, ((HB.out.cell (World.block_lt_of_cell? w _ hw121_0)).trans hw121_0), ((HB.out.cell (World.block_lt_of_cell? w _ hw122_0)).trans hw122_0), ((HB.out.cell (World.block_lt_of_cell? w _ hw124_0)).trans hw124_0), ((HB.out.cell (World.block_lt_of_cell? w _ hw125_0)).trans hw125_0)⟩ (fun hHeld => ?_)
          clear hK K; refine nm_ 50 ?_; refine pu_ HT_ 35 51 (bs_ 37 68719476735) ?_; refine pu_ HT_ 36 52 (bs_ 37 137438953471) ?_
          refine done_ (done_of HT_.out (by kernel_rfl)) ?_
          try go_wp2
          go_meet
          case rel => exact ⟨_, (!c4), rf_, H', ⟨by first | omega | exact Nat.le_refl _⟩, bw_ a5, bw_ a8, ⟨hw_ HB⟩⟩
         ·rw [if_neg C4] at H
          exact absurd H (by simp)
        ·rw [if_neg C3] at H
         exact absurd H (by simp)
       ·rw [if_neg C2] at H
        exact absurd H (by simp)
      ·replace C1 := Bool.eq_false_iff.mpr C1; subst C1
       have H1 : (impl_AtGrid.j0 k a1 a2 true l0_0 l0_1 l0_2) = some (r1, r2, r3) := by rw [if_neg (show ¬ (false = true) by decide)] at H; exact H
       clear H
       have H := H1
       clear H1
       have H' := mk_ H
       clear H
       try go_wp2
       replace a5 := dB_ a5; replace a8 := dB_ a8; replace HB := dH_ HB
       have l7 : 0 ≤ (0 : Int) := (by omega)
       have l8 : 0 < (l0_0.length : Int) := od_
       obtain ⟨c7, o9, b3⟩ := Kd.at_int c6.out 0 l7 l8
       have hw121_0 := b3
       (try rw [show ((0 : Int)).toNat = 0 from rfl] at hw121_0)
       (try rw [show 0 * 1 = 0 from rfl] at hw121_0)
       (try rw [Addr.add_zero'] at hw121_0)
       cases o9
       have qi121 : (0 < l0_0.length) = True := eq_true (by omega)
       (try rw [show ((0 : Int)).toNat = 0 from rfl] at b3)
       (try rw [Addr.add_zero'] at b3)
       replace b3 := (HB.out.cell (World.block_lt_of_cell? w _ b3)).trans b3
       replace l7 := eq_true l7; replace l8 := eq_true l8
       have l9 : 0 ≤ ((b7) : Int) := od_
       have m0 : (b7) < (l0_0.length : Int) := od_
       obtain ⟨o1, p0, b5⟩ := Kd.at_int c6.out (b7) l9 m0
       have hw122_0 := b5
       obtain rfl : c7 = o1 := (by injection p0)
       replace b5 := (HB.out.cell (World.block_lt_of_cell? w _ b5)).trans b5
       replace l9 := eq_true l9; replace m0 := eq_true m0
       refine start_ (n := 37) (S := fun w' => w'.cell? ⟨b1, 0, none⟩ = some (.slice (some c7) l0_0.length c0_0) ∧ w'.cell? ⟨b1, 1, none⟩ = some (.slice A0_1 l0_1.length c0_1) ∧ w'.cell? ⟨b1, 2, none⟩ = some (.slice A0_2 l0_2.length c0_2) ∧ w'.cell? c7 = some (.int .i64 (rd l0_0 0)) ∧ w'.cell? (c7.add ((b7)).toNat) = some (.int .i64 (rd l0_0 (b7)))) (ds := []) (bs_ 37 0) (by kernel_rfl) rfl (by kernel_rfl) ⟨bc0_ a5, bc1_ a5, bc2_ a5, ((HB.out.cell (World.block_lt_of_cell? w _ hw121_0)).trans hw121_0), ((HB.out.cell (World.block_lt_of_cell? w _ hw122_0)).trans hw122_0)⟩ (fun hHeld => ?_); refine with_tabW impl_AtGrid.tab1 impl_AtGrid.bits1 (fun HT_ HW_ => ?_)
       generalize w6.drew = M8 at a5 a8 HB b3 b5 hHeld ⊢
       refine tk_ HT_ HW_ 0 16 (bs_ 37 1) hHeld ?_
       refine one_ (i := 1) (N := some 17) (bs_ 37 3) rfl rfl (one_of HT_.out (by kernel_rfl)) (by decide) (fun K hK => ?_)
       refine gs_ Try.func26 #[.agg #[.slice (some c7) l0_0.length c0_0, .slice A0_1 l0_1.length c0_1, .slice A0_2 l0_2.length c0_2]] ?_
       with_reducible refine (impl_GridOk.calls k _ _ l0_0 _ _ l0_1 _ _ l0_2 true _ ?d8 ?d9 ?j7 ?j8 ?j9 ?l1 A7.out).mono ?_
       (case d8 => exact cw_ (Kd.C_below c6.out HB.out))
       (case d9 => exact m2.out)
       (case j7 => exact cw_ (Kd.C_below h5.out HB.out))
       (case j8 => exact m3.out)
       (case j9 => exact cw_ (Kd.C_below j2.out HB.out))
       (case l1 => exact o0.out)
       rintro e M9 ⟨rfl, hb⟩
       refine ⟨_, rfl, ?_⟩
       replace a5 := bk_ a5 hb; replace a8 := bk_ a8 hb; replace HB := hk_ HB hb
       (try clear hb); (try clear F6); (try clear hk); (try clear hi)
       refine hK.out _ _ ⟨bc0_ a5, bc1_ a5, bc2_ a5, ((HB.out.cell (World.block_lt_of_cell? w _ hw121_0)).trans hw121_0), ((HB.out.cell (World.block_lt_of_cell? w _ hw122_0)).trans hw122_0)⟩ (fun hHeld => ?_)
       clear hK K; refine nm_ 17 ?_; refine pu_ HT_ 2 18 (bs_ 37 7) ?_; refine pu_ HT_ 3 19 (bs_ 37 15) ?_; refine pu_ HT_ 4 20 (bs_ 37 31) ?_; refine pu_ HT_ 5 21 (bs_ 37 63) ?_; refine pu_ HT_ 9 25 (bs_ 37 575) ?_; refine pu_ HT_ 11 27 (bs_ 37 2623) ?_; refine tk_ HT_ HW_ 6 22 (bs_ 37 2687) hHeld ?_; refine pu_ HT_ 7 23 (bs_ 37 2815) ?_; refine tk_ HT_ HW_ 8 24 (bs_ 37 3071) hHeld ?_; refine tk_ HT_ HW_ 10 26 (bs_ 37 4095) hHeld ?_; refine tk_ HT_ HW_ 12 28 (bs_ 37 8191) hHeld ?_; refine pu_ HT_ 13 29 (bs_ 37 16383) ?_; refine pu_ HT_ 14 30 (bs_ 37 32767) ?_; refine pu_ HT_ 15 31 (bs_ 37 65535) ?_; refine tk_ HT_ HW_ 16 32 (bs_ 37 131071) hHeld ?_
       refine one_ (i := 17) (N := some 33) (bs_ 37 262143) rfl rfl (one_of HT_.out (by kernel_rfl)) (by decide) (fun K hK => ?_)
       refine goes_ Try.func65 (by kernel_rfl) rfl #[.int .i64 a1, .int .i64 (rd l0_0 0), .int .i64 (rd l0_0 (b7))] (by rfl) rfl rfl (by (try simp only [List.map_toArray, List.map_cons, List.map_nil]); first | done | (simp only [j4]; rfl) | rfl | (simp only [List.length_drop, List.length_take]; rfl)) ?_
       with_reducible refine (impl_in.calls a1 (rd l0_0 0) (rd l0_0 (b7)) false _ F3.out).mono ?_
       rintro e w' ⟨rfl, ⟨nd, rfl⟩⟩
       refine ⟨_, rfl, ?_⟩
       refine hK.out _ _ ⟨bc0_ a5, bc1_ a5, bc2_ a5, ((HB.out.cell (World.block_lt_of_cell? w _ hw121_0)).trans hw121_0), ((HB.out.cell (World.block_lt_of_cell? w _ hw122_0)).trans hw122_0)⟩ (fun hHeld => ?_)
       clear hK K; refine nm_ 33 ?_; refine pu_ HT_ 18 34 (bs_ 37 524287) ?_; refine pu_ HT_ 19 35 (bs_ 37 1048575) ?_; refine pu_ HT_ 20 36 (bs_ 37 2097151) ?_; refine pn_ HT_ 21 37 (bs_ 37 4194303) ?_; refine pn_ HT_ 22 38 (bs_ 37 8388607) ?_; refine pn_ HT_ 23 39 (bs_ 37 16777215) ?_; refine pn_ HT_ 24 40 (bs_ 37 33554431) ?_; refine pn_ HT_ 25 41 (bs_ 37 67108863) ?_; refine pn_ HT_ 26 42 (bs_ 37 134217727) ?_; refine pn_ HT_ 27 43 (bs_ 37 268435455) ?_; refine pn_ HT_ 28 44 (bs_ 37 536870911) ?_; refine pn_ HT_ 29 45 (bs_ 37 1073741823) ?_; refine pn_ HT_ 30 46 (bs_ 37 2147483647) ?_; refine pn_ HT_ 31 47 (bs_ 37 4294967295) ?_; refine pn_ HT_ 32 48 (bs_ 37 8589934591) ?_; refine pn_ HT_ 33 49 (bs_ 37 17179869183) ?_; refine pn_ HT_ 34 50 (bs_ 37 34359738367) ?_; refine pn_ HT_ 35 51 (bs_ 37 68719476735) ?_; refine pu_ HT_ 36 52 (bs_ 37 137438953471) ?_
       refine done_ (done_of HT_.out (by kernel_rfl)) ?_
       try go_wp2
       go_meet
       case rel => exact ⟨_, (true), rf_, H', ⟨by first | omega | exact Nat.le_refl _⟩, bw_ a5, bw_ a8, ⟨hw_ HB⟩⟩
     ·rw [if_neg C0] at H
      exact absurd H (by simp)
    ·rw [if_neg B9] at H
     exact absurd H (by simp)
   ·rw [if_neg c9] at H
    exact absurd H (by simp)
  ·replace c8 := Bool.eq_false_iff.mpr c8; subst c8
   have H1 : (impl_AtGrid.j0 k a1 a2 true l0_0 l0_1 l0_2) = some (r1, r2, r3) := by rw [if_neg (show ¬ (false = true) by decide)] at H; exact H
   clear H
   have H := H1
   clear H1
   have H' := mk_ H
   clear H
   try go_wp2
   replace a5 := dB_ a5; replace a8 := dB_ a8; replace HB := dH_ HB
   refine start_ (n := 37) (S := fun w' => w'.cell? ⟨b1, 0, none⟩ = some (.slice A0_0 l0_0.length c0_0) ∧ w'.cell? ⟨b1, 1, none⟩ = some (.slice A0_1 l0_1.length c0_1) ∧ w'.cell? ⟨b1, 2, none⟩ = some (.slice A0_2 l0_2.length c0_2)) (ds := []) (bs_ 37 0) (by kernel_rfl) rfl (by kernel_rfl) ⟨bc0_ a5, bc1_ a5, bc2_ a5⟩ (fun hHeld => ?_); refine with_tabW impl_AtGrid.tab1 impl_AtGrid.bits1 (fun HT_ HW_ => ?_)
   generalize w6.drew = N0 at a5 a8 HB hHeld ⊢
   refine tk_ HT_ HW_ 0 16 (bs_ 37 1) hHeld ?_
   refine one_ (i := 1) (N := some 17) (bs_ 37 3) rfl rfl (one_of HT_.out (by kernel_rfl)) (by decide) (fun K hK => ?_)
   refine gs_ Try.func26 #[.agg #[.slice A0_0 l0_0.length c0_0, .slice A0_1 l0_1.length c0_1, .slice A0_2 l0_2.length c0_2]] ?_
   with_reducible refine (impl_GridOk.calls k _ _ l0_0 _ _ l0_1 _ _ l0_2 false _ ?d8 ?d9 ?j7 ?j8 ?j9 ?l1 A7.out).mono ?_
   (case d8 => exact cw_ (Kd.C_below c6.out HB.out))
   (case d9 => exact m2.out)
   (case j7 => exact cw_ (Kd.C_below h5.out HB.out))
   (case j8 => exact m3.out)
   (case j9 => exact cw_ (Kd.C_below j2.out HB.out))
   (case l1 => exact o0.out)
   rintro e N1 ⟨rfl, hb⟩
   refine ⟨_, rfl, ?_⟩
   replace a5 := bk_ a5 hb; replace a8 := bk_ a8 hb; replace HB := hk_ HB hb
   (try clear hb); (try clear F6); (try clear hk); (try clear hi)
   refine hK.out _ _ ⟨bc0_ a5, bc1_ a5, bc2_ a5⟩ (fun hHeld => ?_)
   clear hK K; refine nm_ 17 ?_; refine pu_ HT_ 2 18 (bs_ 37 7) ?_; refine pu_ HT_ 3 19 (bs_ 37 15) ?_; refine pn_ HT_ 4 20 (bs_ 37 31) ?_; refine pn_ HT_ 5 21 (bs_ 37 63) ?_; refine pn_ HT_ 6 22 (bs_ 37 127) ?_; refine pn_ HT_ 7 23 (bs_ 37 255) ?_; refine pn_ HT_ 8 24 (bs_ 37 511) ?_; refine pn_ HT_ 9 25 (bs_ 37 1023) ?_; refine pn_ HT_ 10 26 (bs_ 37 2047) ?_; refine pn_ HT_ 11 27 (bs_ 37 4095) ?_; refine pn_ HT_ 12 28 (bs_ 37 8191) ?_; refine pn_ HT_ 13 29 (bs_ 37 16383) ?_; refine pn_ HT_ 14 30 (bs_ 37 32767) ?_; refine pn_ HT_ 15 31 (bs_ 37 65535) ?_; refine pn_ HT_ 16 32 (bs_ 37 131071) ?_; refine pn_ HT_ 17 33 (bs_ 37 262143) ?_; refine pn_ HT_ 18 34 (bs_ 37 524287) ?_; refine pu_ HT_ 19 35 (bs_ 37 1048575) ?_; refine pu_ HT_ 20 36 (bs_ 37 2097151) ?_; refine pn_ HT_ 21 37 (bs_ 37 4194303) ?_; refine pn_ HT_ 22 38 (bs_ 37 8388607) ?_; refine pn_ HT_ 23 39 (bs_ 37 16777215) ?_; refine pn_ HT_ 24 40 (bs_ 37 33554431) ?_; refine pn_ HT_ 25 41 (bs_ 37 67108863) ?_; refine pn_ HT_ 26 42 (bs_ 37 134217727) ?_; refine pn_ HT_ 27 43 (bs_ 37 268435455) ?_; refine pn_ HT_ 28 44 (bs_ 37 536870911) ?_; refine pn_ HT_ 29 45 (bs_ 37 1073741823) ?_; refine pn_ HT_ 30 46 (bs_ 37 2147483647) ?_; refine pn_ HT_ 31 47 (bs_ 37 4294967295) ?_; refine pn_ HT_ 32 48 (bs_ 37 8589934591) ?_; refine pn_ HT_ 33 49 (bs_ 37 17179869183) ?_; refine pn_ HT_ 34 50 (bs_ 37 34359738367) ?_; refine pn_ HT_ 35 51 (bs_ 37 68719476735) ?_; refine pu_ HT_ 36 52 (bs_ 37 137438953471) ?_
   refine done_ (done_of HT_.out (by kernel_rfl)) ?_
   try go_wp2
   go_meet
   case rel => exact ⟨_, (true), rf_, H', ⟨by first | omega | exact Nat.le_refl _⟩, bw_ a5, bw_ a8, ⟨hw_ HB⟩⟩
 case rest => as_aux_lemma =>
  clear F2
  obtain ⟨kq, m4, rfl, HA, N2, a5, a8, HB⟩ := hcut
  cases kq with
  | zero => exact absurd HA.out (by simp [impl_AtGrid.j0])
  | succ kj3 =>
   have H := HA.out; clear HA
   simp only [impl_AtGrid.j0] at H
   by_cases C5 : m4 = true
   ·subst C5
    have H1 : (some (0, 0, false)) = some (r1, r2, r3) := by rw [if_pos rfl] at H; exact H
    clear H
    have H := H1
    clear H1
    simp only [Option.some.injEq, Prod.mk.injEq] at H
    obtain ⟨rfl, rfl, rfl⟩ := H; have I9 := j3.out
    have J0 := h4.out; have C6 := bc0_ a8
    have C7 := bc1_ a8; have C8 := bf_ a8 0; have C9 := bf_ a8 1; go_wp2
    refine bodyPost_ret (results_ct rfl _ _ d6 26 #[.int .i64 0, .int .i64 0] (0, 0) _ rfl (by (with_reducible repeat (first | refine blk_drewN ?_ _ | refine blk_drew ?_ | refine blk_alloc ?_ _)); refine blk_put (cs := #[.int .i64 0, .int .i64 0]) ?_ 1 _ rfl; (with_reducible repeat (first | refine blk_drewN ?_ _ | refine blk_drew ?_ | refine blk_alloc ?_ _)); refine blk_put (cs := #[.int .i64 0, .int .i64 0]) ?_ 0 _ rfl; (with_reducible repeat (first | refine blk_drewN ?_ _ | refine blk_drew ?_ | refine blk_alloc ?_ _)); exact a8.out) Try.underlying26 rfl (by kernel_rfl)) rfl ?_
    exact ⟨re_, by repeat (first | (with_reducible first | exact HB.out | apply below_alloc | apply pw_below_drewN | apply below_drew1 | refine below_set ?_ o8.out) | exact HB.out)⟩
   ·replace C5 := Bool.eq_false_iff.mpr C5; subst C5
    have H1 : ((impl_piece.f kj3 l0_0 a1).bind fun a7 => ((impl_piece.f kj3 l0_1 a2).bind fun a6 => (if 0 ≤ a7 then (if a7 < (l0_0.length : Int) then (if 0 ≤ (wrap64 (a7 + 1)) then (if (wrap64 (a7 + 1)) < (l0_0.length : Int) then (if 0 ≤ a6 then (if a6 < (l0_2.length : Int) then (if a7 < ((rd_L2 l0_2 a6).length : Int) then (if (wrap64 (a7 + 1)) < ((rd_L2 l0_2 a6).length : Int) then ((impl_between.f (rd l0_0 a7) (rd l0_0 (wrap64 (a7 + 1))) (rd (rd_L2 l0_2 a6) a7) (rd (rd_L2 l0_2 a6) (wrap64 (a7 + 1))) a1).bind fun b8 => (if 0 ≤ (wrap64 (a6 + 1)) then (if (wrap64 (a6 + 1)) < (l0_2.length : Int) then (if a7 < ((rd_L2 l0_2 (wrap64 (a6 + 1))).length : Int) then (if (wrap64 (a7 + 1)) < ((rd_L2 l0_2 (wrap64 (a6 + 1))).length : Int) then ((impl_between.f (rd l0_0 a7) (rd l0_0 (wrap64 (a7 + 1))) (rd (rd_L2 l0_2 (wrap64 (a6 + 1))) a7) (rd (rd_L2 l0_2 (wrap64 (a6 + 1))) (wrap64 (a7 + 1))) a1).bind fun c2 => (if a6 < (l0_1.length : Int) then (if (wrap64 (a6 + 1)) < (l0_1.length : Int) then ((impl_between.f (rd l0_1 a6) (rd l0_1 (wrap64 (a6 + 1))) b8.1 c2.1 a2).bind fun b4 => ((impl_frac.f kj3 b4.1 (wrap64 (b8.2 * b4.2))).bind fun b2 => (some (b2.1, b2.2, true)))) else (none)) else (none))) else (none)) else (none)) else (none)) else (none))) else (none)) else (none)) else (none)) else (none)) else (none)) else (none)) else (none)) else (none)))) = some (r1, r2, r3) := by rw [if_neg (show ¬ (false = true) by decide)] at H; exact H
    clear H
    have H := H1
    clear H1; replace H := Option.bind_eq_some_iff.mp H; obtain ⟨a7, y7, H⟩ := H
    replace H : ((impl_piece.f kj3 l0_1 a2).bind fun a6 => (if 0 ≤ a7 then (if a7 < (l0_0.length : Int) then (if 0 ≤ (wrap64 (a7 + 1)) then (if (wrap64 (a7 + 1)) < (l0_0.length : Int) then (if 0 ≤ a6 then (if a6 < (l0_2.length : Int) then (if a7 < ((rd_L2 l0_2 a6).length : Int) then (if (wrap64 (a7 + 1)) < ((rd_L2 l0_2 a6).length : Int) then ((impl_between.f (rd l0_0 a7) (rd l0_0 (wrap64 (a7 + 1))) (rd (rd_L2 l0_2 a6) a7) (rd (rd_L2 l0_2 a6) (wrap64 (a7 + 1))) a1).bind fun b8 => (if 0 ≤ (wrap64 (a6 + 1)) then (if (wrap64 (a6 + 1)) < (l0_2.length : Int) then (if a7 < ((rd_L2 l0_2 (wrap64 (a6 + 1))).length : Int) then (if (wrap64 (a7 + 1)) < ((rd_L2 l0_2 (wrap64 (a6 + 1))).length : Int) then ((impl_between.f (rd l0_0 a7) (rd l0_0 (wrap64 (a7 + 1))) (rd (rd_L2 l0_2 (wrap64 (a6 + 1))) a7) (rd (rd_L2 l0_2 (wrap64 (a6 + 1))) (wrap64 (a7 + 1))) a1).bind fun c2 => (if a6 < (l0_1.length : Int) then (if (wrap64 (a6 + 1)) < (l0_1.length : Int) then ((impl_between.f (rd l0_1 a6) (rd l0_1 (wrap64 (a6 + 1))) b8.1 c2.1 a2).bind fun b4 => ((impl_frac.f kj3 b4.1 (wrap64 (b8.2 * b4.2))).bind fun b2 => (some (b2.1, b2.2, true)))) else (none)) else (none))) else (none)) else (none)) else (none)) else (none))) else (none)) else (none)) else (none)) else (none)) else (none)) else (none)) else (none)) else (none))) = some (r1, r2, r3) := H
    have F7 := mk_ y7; clear y7; replace H := Option.bind_eq_some_iff.mp H; obtain ⟨a6, y8, H⟩ := H
    replace H : (if 0 ≤ a7 then (if a7 < (l0_0.length : Int) then (if 0 ≤ (wrap64 (a7 + 1)) then (if (wrap64 (a7 + 1)) < (l0_0.length : Int) then (if 0 ≤ a6 then (if a6 < (l0_2.length : Int) then (if a7 < ((rd_L2 l0_2 a6).length : Int) then (if (wrap64 (a7 + 1)) < ((rd_L2 l0_2 a6).length : Int) then ((impl_between.f (rd l0_0 a7) (rd l0_0 (wrap64 (a7 + 1))) (rd (rd_L2 l0_2 a6) a7) (rd (rd_L2 l0_2 a6) (wrap64 (a7 + 1))) a1).bind fun b8 => (if 0 ≤ (wrap64 (a6 + 1)) then (if (wrap64 (a6 + 1)) < (l0_2.length : Int) then (if a7 < ((rd_L2 l0_2 (wrap64 (a6 + 1))).length : Int) then (if (wrap64 (a7 + 1)) < ((rd_L2 l0_2 (wrap64 (a6 + 1))).length : Int) then ((impl_between.f (rd l0_0 a7) (rd l0_0 (wrap64 (a7 + 1))) (rd (rd_L2 l0_2 (wrap64 (a6 + 1))) a7) (rd (rd_L2 l0_2 (wrap64 (a6 + 1))) (wrap64 (a7 + 1))) a1).bind fun c2 => (if a6 < (l0_1.length : Int) then (if (wrap64 (a6 + 1)) < (l0_1.length : Int) then ((impl_between.f (rd l0_1 a6) (rd l0_1 (wrap64 (a6 + 1))) b8.1 c2.1 a2).bind fun b4 => ((impl_frac.f kj3 b4.1 (wrap64 (b8.2 * b4.2))).bind fun b2 => (some (b2.1, b2.2, true)))) else (none)) else (none))) else (none)) else (none)) else (none)) else (none))) else (none)) else (none)) else (none)) else (none)) else (none)) else (none)) else (none)) else (none)) = some (r1, r2, r3) := H
    have F8 := mk_ y8; clear y8; by_cases D0 : 0 ≤ a7
    ·rw [if_pos D0] at H; have J1 : decide (0 ≤ a7) = true := decide_eq_true D0; clear D0; by_cases D1 : a7 < (l0_0.length : Int)
     ·rw [if_pos D1] at H; have J2 : decide (a7 < (l0_0.length : Int)) = true := decide_eq_true D1; clear D1
      obtain ⟨a9, h6⟩ : ∃ j_ : Int, (wrap64 (a7 + 1)) = j_ := ⟨_, rfl⟩
      replace H : (if 0 ≤ (a9) then (if (a9) < (l0_0.length : Int) then (if 0 ≤ a6 then (if a6 < (l0_2.length : Int) then (if a7 < ((rd_L2 l0_2 a6).length : Int) then (if (a9) < ((rd_L2 l0_2 a6).length : Int) then ((impl_between.f (rd l0_0 a7) (rd l0_0 (a9)) (rd (rd_L2 l0_2 a6) a7) (rd (rd_L2 l0_2 a6) (a9)) a1).bind fun b8 => (if 0 ≤ (wrap64 (a6 + 1)) then (if (wrap64 (a6 + 1)) < (l0_2.length : Int) then (if a7 < ((rd_L2 l0_2 (wrap64 (a6 + 1))).length : Int) then (if (a9) < ((rd_L2 l0_2 (wrap64 (a6 + 1))).length : Int) then ((impl_between.f (rd l0_0 a7) (rd l0_0 (a9)) (rd (rd_L2 l0_2 (wrap64 (a6 + 1))) a7) (rd (rd_L2 l0_2 (wrap64 (a6 + 1))) (a9)) a1).bind fun c2 => (if a6 < (l0_1.length : Int) then (if (wrap64 (a6 + 1)) < (l0_1.length : Int) then ((impl_between.f (rd l0_1 a6) (rd l0_1 (wrap64 (a6 + 1))) b8.1 c2.1 a2).bind fun b4 => ((impl_frac.f kj3 b4.1 (wrap64 (b8.2 * b4.2))).bind fun b2 => (some (b2.1, b2.2, true)))) else (none)) else (none))) else (none)) else (none)) else (none)) else (none))) else (none)) else (none)) else (none)) else (none)) else (none)) else (none)) = some (r1, r2, r3) := by first | (rw [h6] at H; exact H) | (simp only [h6] at H ⊢; exact H)
      (try rw [h6] at F7)
      (try rw [h6] at F8)
      have hji33w : (IntKind.i64.wrap (a7 + 1)) = a9 := (i64_w _).trans h6
      by_cases D2 : 0 ≤ (a9)
      ·rw [if_pos D2] at H; have J3 : decide (0 ≤ (a9)) = true := decide_eq_true D2; clear D2; by_cases D3 : (a9) < (l0_0.length : Int)
       ·rw [if_pos D3] at H; have J4 : decide ((a9) < (l0_0.length : Int)) = true := decide_eq_true D3; clear D3; by_cases D4 : 0 ≤ a6
        ·rw [if_pos D4] at H; have J5 : decide (0 ≤ a6) = true := decide_eq_true D4; clear D4; by_cases D5 : a6 < (l0_2.length : Int)
         ·rw [if_pos D5] at H; have J6 : decide (a6 < (l0_2.length : Int)) = true := decide_eq_true D5; clear D5; by_cases D6 : a7 < ((rd_L2 l0_2 a6).length : Int)
          ·rw [if_pos D6] at H; have J7 : decide (a7 < ((rd_L2 l0_2 a6).length : Int)) = true := decide_eq_true D6; clear D6; by_cases D7 : (a9) < ((rd_L2 l0_2 a6).length : Int)
           ·rw [if_pos D7] at H; have J8 : decide ((a9) < ((rd_L2 l0_2 a6).length : Int)) = true := decide_eq_true D7; clear D7; replace H := Option.bind_eq_some_iff.mp H; obtain ⟨⟨n9, m1⟩, y9, H⟩ := H
            replace H : (if 0 ≤ (wrap64 (a6 + 1)) then (if (wrap64 (a6 + 1)) < (l0_2.length : Int) then (if a7 < ((rd_L2 l0_2 (wrap64 (a6 + 1))).length : Int) then (if (a9) < ((rd_L2 l0_2 (wrap64 (a6 + 1))).length : Int) then ((impl_between.f (rd l0_0 a7) (rd l0_0 (a9)) (rd (rd_L2 l0_2 (wrap64 (a6 + 1))) a7) (rd (rd_L2 l0_2 (wrap64 (a6 + 1))) (a9)) a1).bind fun c2 => (if a6 < (l0_1.length : Int) then (if (wrap64 (a6 + 1)) < (l0_1.length : Int) then ((impl_between.f (rd l0_1 a6) (rd l0_1 (wrap64 (a6 + 1))) n9 c2.1 a2).bind fun b4 => ((impl_frac.f kj3 b4.1 (wrap64 (m1 * b4.2))).bind fun b2 => (some (b2.1, b2.2, true)))) else (none)) else (none))) else (none)) else (none)) else (none)) else (none)) = some (r1, r2, r3) := H
            have J9 := mk_ y9; clear y9
            obtain ⟨b0, g1⟩ : ∃ j_ : Int, (wrap64 (a6 + 1)) = j_ := ⟨_, rfl⟩
            replace H : (if 0 ≤ (b0) then (if (b0) < (l0_2.length : Int) then (if a7 < ((rd_L2 l0_2 (b0)).length : Int) then (if (a9) < ((rd_L2 l0_2 (b0)).length : Int) then ((impl_between.f (rd l0_0 a7) (rd l0_0 (a9)) (rd (rd_L2 l0_2 (b0)) a7) (rd (rd_L2 l0_2 (b0)) (a9)) a1).bind fun c2 => (if a6 < (l0_1.length : Int) then (if (b0) < (l0_1.length : Int) then ((impl_between.f (rd l0_1 a6) (rd l0_1 (b0)) n9 c2.1 a2).bind fun b4 => ((impl_frac.f kj3 b4.1 (wrap64 (m1 * b4.2))).bind fun b2 => (some (b2.1, b2.2, true)))) else (none)) else (none))) else (none)) else (none)) else (none)) else (none)) = some (r1, r2, r3) := by first | (rw [g1] at H; exact H) | (simp only [g1] at H ⊢; exact H)
            (try rw [g1] at F7)
            (try rw [g1] at F8)
            (try rw [g1] at J9)
            have hji41w : (IntKind.i64.wrap (a6 + 1)) = b0 := (i64_w _).trans g1
            by_cases D8 : 0 ≤ (b0)
            ·rw [if_pos D8] at H; have L0 : decide (0 ≤ (b0)) = true := decide_eq_true D8; clear D8; by_cases D9 : (b0) < (l0_2.length : Int)
             ·rw [if_pos D9] at H; have L1 : decide ((b0) < (l0_2.length : Int)) = true := decide_eq_true D9; clear D9; by_cases E0 : a7 < ((rd_L2 l0_2 (b0)).length : Int)
              ·rw [if_pos E0] at H; have L2 : decide (a7 < ((rd_L2 l0_2 (b0)).length : Int)) = true := decide_eq_true E0; clear E0; by_cases E1 : (a9) < ((rd_L2 l0_2 (b0)).length : Int)
               ·rw [if_pos E1] at H; have L3 : decide ((a9) < ((rd_L2 l0_2 (b0)).length : Int)) = true := decide_eq_true E1; clear E1; replace H := Option.bind_eq_some_iff.mp H; obtain ⟨⟨o4, F9⟩, A1, H⟩ := H
                replace H : (if a6 < (l0_1.length : Int) then (if (b0) < (l0_1.length : Int) then ((impl_between.f (rd l0_1 a6) (rd l0_1 (b0)) n9 o4 a2).bind fun b4 => ((impl_frac.f kj3 b4.1 (wrap64 (m1 * b4.2))).bind fun b2 => (some (b2.1, b2.2, true)))) else (none)) else (none)) = some (r1, r2, r3) := H
                have M3 := mk_ A1; clear A1; by_cases E2 : a6 < (l0_1.length : Int)
                ·rw [if_pos E2] at H; have L4 : decide (a6 < (l0_1.length : Int)) = true := decide_eq_true E2; clear E2; by_cases E3 : (b0) < (l0_1.length : Int)
                 ·rw [if_pos E3] at H; have L5 : decide ((b0) < (l0_1.length : Int)) = true := decide_eq_true E3; clear E3; replace H := Option.bind_eq_some_iff.mp H; obtain ⟨⟨o5, o6⟩, A2, H⟩ := H
                  replace H : ((impl_frac.f kj3 o5 (wrap64 (m1 * o6))).bind fun b2 => (some (b2.1, b2.2, true))) = some (r1, r2, r3) := H
                  have M4 := mk_ A2; clear A2; replace H := Option.bind_eq_some_iff.mp H; obtain ⟨⟨o7, p5⟩, A3, H⟩ := H
                  replace H : (some (o7, p5, true)) = some (r1, r2, r3) := H
                  have M5 := mk_ A3; clear A3
                  simp only [Option.some.injEq, Prod.mk.injEq] at H
                  obtain ⟨rfl, rfl, rfl⟩ := H
                  try go_wp2
                  replace a5 := dB_ a5; replace a8 := dB_ a8; replace HB := dH_ HB
                  refine start_ (n := 10) (S := fun w' => w'.cell? ⟨b1, 0, none⟩ = some (.slice A0_0 l0_0.length c0_0) ∧ w'.cell? ⟨b1, 1, none⟩ = some (.slice A0_1 l0_1.length c0_1) ∧ w'.cell? ⟨b1, 2, none⟩ = some (.slice A0_2 l0_2.length c0_2)) (ds := []) (bs_ 10 0) (by kernel_rfl) rfl (by kernel_rfl) ⟨bc0_ a5, bc1_ a5, bc2_ a5⟩ (fun hHeld => ?_); refine with_tabW impl_AtGrid.tab3 impl_AtGrid.bits3 (fun HT_ HW_ => ?_)
                  generalize wc.drew = l4 at a5 a8 HB hHeld ⊢
                  refine pu_ HT_ 0 54 (bs_ 10 1) ?_; refine pu_ HT_ 2 56 (bs_ 10 5) ?_; refine pu_ HT_ 4 58 (bs_ 10 21) ?_; refine pu_ HT_ 6 60 (bs_ 10 85) ?_; refine tk_ HT_ HW_ 1 55 (bs_ 10 87) hHeld ?_; refine tk_ HT_ HW_ 5 59 (bs_ 10 119) hHeld ?_
                  refine one_ (i := 3) (N := some 57) (bs_ 10 127) rfl rfl (one_of HT_.out (by kernel_rfl)) (by decide) (fun K hK => ?_)
                  refine gs_ Try.func66 #[.slice A0_0 l0_0.length c0_0, .int .i64 a1] ?_
                  with_reducible refine (impl_piece.calls kj3 _ _ l0_0 a1 a7 _ ?d8 ?d9 F7.out).mono ?_
                  (case d8 => exact cw_ (Kd.C_below c6.out HB.out))
                  (case d9 => exact m2.out)
                  rintro e w' ⟨rfl, ⟨nd, rfl⟩⟩
                  refine ⟨_, rfl, ?_⟩
                  refine hK.out _ _ ⟨bc0_ a5, bc1_ a5, bc2_ a5⟩ (fun hHeld => ?_)
                  clear hK K; refine nm_ 57 ?_
                  refine one_ (i := 7) (N := some 61) (bs_ 10 255) rfl rfl (one_of HT_.out (by kernel_rfl)) (by decide) (fun K hK => ?_)
                  refine gs_ Try.func66 #[.slice A0_1 l0_1.length c0_1, .int .i64 a2] ?_
                  with_reducible refine (impl_piece.calls kj3 _ _ l0_1 a2 a6 _ ?d8 ?d9 F8.out).mono ?_
                  (case d8 => repeat (first | exact (Kd.C_below h5.out (hw_ HB)) | (with_reducible refine Kd.C_alloc ?_ _) | (with_reducible refine Kd.C_drewN ?_ _) | (with_reducible refine Kd.C_drew ?_)))
                  (case d9 => exact m3.out)
                  rintro e w' ⟨rfl, ⟨nd, rfl⟩⟩
                  refine ⟨_, rfl, ?_⟩
                  refine hK.out _ _ ⟨bc0_ a5, bc1_ a5, bc2_ a5⟩ (fun hHeld => ?_)
                  clear hK K; refine nm_ 61 ?_; refine pu_ HT_ 8 8 (bs_ 10 511) ?_; refine pu_ HT_ 9 9 (bs_ 10 1023) ?_
                  refine done_ (done_of HT_.out (by kernel_rfl)) ?_
                  try go_wp2
                  (first | (rw [World.drewN_drewN]; (repeat rw [World.drewN_drewN]); generalize hq_ : World.drewN l4 _ = l4; have h7 : Aside0 (l4.heap[b1]? = some (.cells #[.slice A0_0 l0_0.length c0_0, .slice A0_1 l0_1.length c0_1, .slice A0_2 l0_2.length c0_2] 50 (0, 0))) := ⟨by rw [← hq_]; exact (bx_ a5)⟩; have h8 : Aside0 (l4.heap[d6]? = some (.cells #[.int .i64 0, .int .i64 0] 26 (0, 0))) := ⟨by rw [← hq_]; exact (bx_ a8)⟩; have h9 : Aside0 (Below w.heap.size w l4) := ⟨by rw [← hq_]; exact (hw_ HB)⟩; clear a5 a8 HB hq_; have a5 := h7; have a8 := h8; have HB := h9; clear h7 h8 h9) | (rw [(rfl : World.drewN l4 nd = World.drewN l4 nd)]; generalize hq_ : World.drewN l4 nd = l4; have h7 : Aside0 (l4.heap[b1]? = some (.cells #[.slice A0_0 l0_0.length c0_0, .slice A0_1 l0_1.length c0_1, .slice A0_2 l0_2.length c0_2] 50 (0, 0))) := ⟨by rw [← hq_]; exact (bx_ a5)⟩; have h8 : Aside0 (l4.heap[d6]? = some (.cells #[.int .i64 0, .int .i64 0] 26 (0, 0))) := ⟨by rw [← hq_]; exact (bx_ a8)⟩; have h9 : Aside0 (Below w.heap.size w l4) := ⟨by rw [← hq_]; exact (hw_ HB)⟩; clear a5 a8 HB hq_; have a5 := h7; have a8 := h8; have HB := h9; clear h7 h8 h9) | (try (rw [drewN_self l4]; generalize hq_ : World.drewN l4 _ = l4; have h7 := qB_ hq_ a5; have h8 := qB_ hq_ a8; have h9 := qH_ hq_ HB; clear a5 a8 HB hq_; have a5 := h7; have a8 := h8; have HB := h9; clear h7 h8 h9)))
                  replace a5 := dB_ a5; replace a8 := dB_ a8; replace HB := dH_ HB
                  have p6 : 0 ≤ (a7 : Int) := od_
                  have p7 : a7 < (l0_0.length : Int) := od_
                  obtain ⟨b9, G0, g2⟩ := Kd.at_int c6.out a7 p6 p7
                  have hw129_0 := g2
                  cases G0
                  replace g2 := (HB.out.cell (World.block_lt_of_cell? w _ g2)).trans g2
                  replace p6 := eq_true p6; replace p7 := eq_true p7
                  have p8 : 0 ≤ ((a9) : Int) := od_
                  have p9 : (a9) < (l0_0.length : Int) := od_
                  obtain ⟨A4, G1, g3⟩ := Kd.at_int c6.out (a9) p8 p9
                  have hw130_0 := g3
                  obtain rfl : b9 = A4 := (by injection G1)
                  replace g3 := (HB.out.cell (World.block_lt_of_cell? w _ g3)).trans g3
                  replace p8 := eq_true p8; replace p9 := eq_true p9
                  have q0 : 0 ≤ (a6 : Int) := od_
                  have q1 : a6 < (l0_2.length : Int) := od_
                  obtain ⟨c1, G2, o2, G3, d0, m5, m6⟩ := at_L2 j2.out a6 q0 q1
                  have hw131_0 := d0
                  cases G3
                  replace d0 := (HB.out.cell (World.block_lt_of_cell? w _ d0)).trans d0
                  have m7 := mk_ m6; have E4 := mk_ m5; clear m6 m5; replace q0 := eq_true q0; replace q1 := eq_true q1
                  have q2 : 0 ≤ (a7 : Int) := od_
                  have q3 : a7 < ((rd_L2 l0_2 a6).length : Int) := od_
                  obtain ⟨l2, G4, g4⟩ := Kd.at_int m7.out a7 q2 q3
                  have hw132_0 := g4
                  cases G4
                  replace g4 := (HB.out.cell (World.block_lt_of_cell? w _ g4)).trans g4
                  replace q2 := eq_true q2; replace q3 := eq_true q3
                  have q4 : 0 ≤ (a6 : Int) := od_
                  have q5 : a6 < (l0_2.length : Int) := od_
                  obtain ⟨A5, G5, G6, G7, d1, m8, m9⟩ := at_L2 j2.out a6 q4 q5
                  have hw133_0 := d1
                  obtain rfl : c1 = A5 := (by injection G7)
                  replace d1 := (HB.out.cell (World.block_lt_of_cell? w _ d1)).trans d1
                  have n0 := mk_ m9; have E5 := mk_ m8; clear m9 m8; replace q4 := eq_true q4; replace q5 := eq_true q5
                  have ea_ := Option.some.inj (d0.symm.trans d1)
                  injection ea_ with ea_ en_ ec_
                  subst ea_; subst ec_
                  clear en_
                  have q6 : 0 ≤ ((a9) : Int) := od_
                  have q7 : (a9) < ((rd_L2 l0_2 a6).length : Int) := od_
                  obtain ⟨A6, G8, g5⟩ := Kd.at_int n0.out (a9) q6 q7
                  have hw134_0 := g5
                  obtain rfl : l2 = A6 := (by injection G8)
                  replace g5 := (HB.out.cell (World.block_lt_of_cell? w _ g5)).trans g5
                  replace q6 := eq_true q6; replace q7 := eq_true q7
                  refine start_ (n := 35) (S := fun w' => w'.cell? ⟨b1, 0, none⟩ = some (.slice (some b9) l0_0.length c0_0) ∧ w'.cell? ⟨b1, 1, none⟩ = some (.slice A0_1 l0_1.length c0_1) ∧ w'.cell? ⟨b1, 2, none⟩ = some (.slice (some c1) l0_2.length c0_2) ∧ w'.cell? (b9.add (a7).toNat) = some (.int .i64 (rd l0_0 a7)) ∧ w'.cell? (b9.add ((a9)).toNat) = some (.int .i64 (rd l0_0 (a9))) ∧ w'.cell? (c1.add (a6).toNat) = some (.slice (some l2) (rd_L2 l0_2 a6).length o2) ∧ w'.cell? (l2.add (a7).toNat) = some (.int .i64 (rd (rd_L2 l0_2 a6) a7)) ∧ w'.cell? (c1.add (a6).toNat) = some (.slice (some l2) (rd_L2 l0_2 a6).length o2) ∧ w'.cell? (l2.add ((a9)).toNat) = some (.int .i64 (rd (rd_L2 l0_2 a6) (a9)))) (ds := []) (bs_ 35 0) (by kernel_rfl) rfl (by kernel_rfl) ⟨bc0_ a5, bc1_ a5, bc2_ a5, ((HB.out.cell (World.block_lt_of_cell? w _ hw129_0)).trans hw129_0), ((HB.out.cell (World.block_lt_of_cell? w _ hw130_0)).trans hw130_0), ((HB.out.cell (World.block_lt_of_cell? w _ hw131_0)).trans hw131_0), ((HB.out.cell (World.block_lt_of_cell? w _ hw132_0)).trans hw132_0), ((HB.out.cell (World.block_lt_of_cell? w _ hw133_0)).trans hw133_0), ((HB.out.cell (World.block_lt_of_cell? w _ hw134_0)).trans hw134_0)⟩ (fun hHeld => ?_); refine with_tabW impl_AtGrid.tab4 impl_AtGrid.bits4 (fun HT_ HW_ => ?_)
                  generalize l4.drew = l5 at a5 a8 HB m7 n0 g2 g3 d0 g4 d1 g5 hHeld ⊢
                  refine pu_ HT_ 0 63 (bs_ 35 1) ?_; refine pu_ HT_ 2 65 (bs_ 35 5) ?_; refine pu_ HT_ 5 68 (bs_ 35 37) ?_; refine pu_ HT_ 7 70 (bs_ 35 165) ?_; refine pu_ HT_ 8 71 (bs_ 35 421) ?_; refine pu_ HT_ 11 74 (bs_ 35 2469) ?_; refine pu_ HT_ 13 76 (bs_ 35 10661) ?_; refine pu_ HT_ 16 79 (bs_ 35 76197) ?_; refine pu_ HT_ 19 82 (bs_ 35 600485) ?_; refine pu_ HT_ 21 84 (bs_ 35 2697637) ?_; refine pu_ HT_ 24 87 (bs_ 35 19474853) ?_; refine pu_ HT_ 25 88 (bs_ 35 53029285) ?_; refine pu_ HT_ 28 91 (bs_ 35 321464741) ?_; refine tk_ HT_ HW_ 1 64 (bs_ 35 321464743) hHeld ?_; refine pu_ HT_ 3 66 (bs_ 35 321464751) ?_; refine tk_ HT_ HW_ 4 67 (bs_ 35 321464767) hHeld ?_; refine tk_ HT_ HW_ 6 69 (bs_ 35 321464831) hHeld ?_; refine pu_ HT_ 9 72 (bs_ 35 321465343) ?_; refine tk_ HT_ HW_ 10 73 (bs_ 35 321466367) hHeld ?_; refine tk_ HT_ HW_ 12 75 (bs_ 35 321470463) hHeld ?_; refine pu_ HT_ 14 77 (bs_ 35 321486847) ?_; refine tk_ HT_ HW_ 15 78 (bs_ 35 321519615) hHeld ?_; refine pu_ HT_ 17 80 (bs_ 35 321650687) ?_; refine tk_ HT_ HW_ 18 81 (bs_ 35 321912831) hHeld ?_; refine tk_ HT_ HW_ 20 83 (bs_ 35 322961407) hHeld ?_; refine pu_ HT_ 22 85 (bs_ 35 327155711) ?_; refine tk_ HT_ HW_ 23 86 (bs_ 35 335544319) hHeld ?_; refine pu_ HT_ 26 89 (bs_ 35 402653183) ?_; refine tk_ HT_ HW_ 27 90 (bs_ 35 536870911) hHeld ?_
                  refine one_ (i := 29) (N := some 92) (bs_ 35 1073741823) rfl rfl (one_of HT_.out (by kernel_rfl)) (by decide) (fun K hK => ?_)
                  refine goes_ Try.func67 (by kernel_rfl) rfl #[.int .i64 (rd l0_0 a7), .int .i64 (rd l0_0 (a9)), .int .i64 (rd (rd_L2 l0_2 a6) a7), .int .i64 (rd (rd_L2 l0_2 a6) (a9)), .int .i64 a1] (by rfl) rfl rfl (by (try simp only [List.map_toArray, List.map_cons, List.map_nil]); first | done | (simp only [h6]; rfl) | rfl | (simp only [List.length_drop, List.length_take]; rfl)) ?_
                  with_reducible refine (impl_between.calls (rd l0_0 a7) (rd l0_0 (a9)) (rd (rd_L2 l0_2 a6) a7) (rd (rd_L2 l0_2 a6) (a9)) a1 n9 m1 _ J9.out).mono ?_
                  rintro e w' ⟨rfl, ⟨nd, rfl⟩⟩
                  refine ⟨_, rfl, ?_⟩
                  refine hK.out _ _ ⟨bc0_ a5, bc1_ a5, bc2_ a5, ((HB.out.cell (World.block_lt_of_cell? w _ hw129_0)).trans hw129_0), ((HB.out.cell (World.block_lt_of_cell? w _ hw130_0)).trans hw130_0), ((HB.out.cell (World.block_lt_of_cell? w _ hw131_0)).trans hw131_0), ((HB.out.cell (World.block_lt_of_cell? w _ hw132_0)).trans hw132_0), ((HB.out.cell (World.block_lt_of_cell? w _ hw133_0)).trans hw133_0), ((HB.out.cell (World.block_lt_of_cell? w _ hw134_0)).trans hw134_0)⟩ (fun hHeld => ?_)
                  clear hK K; refine nm_ 92 ?_; refine pu_ HT_ 30 62 (bs_ 35 2147483647) ?_; refine pu_ HT_ 31 93 (bs_ 35 4294967295) ?_; refine pu_ HT_ 32 94 (bs_ 35 8589934591) ?_; refine pu_ HT_ 33 10 (bs_ 35 17179869183) ?_; refine pu_ HT_ 34 11 (bs_ 35 34359738367) ?_
                  refine done_ (done_of HT_.out (by kernel_rfl)) ?_
                  try go_wp2
                  (first | (rw [World.drewN_drewN]; (repeat rw [World.drewN_drewN]); generalize hq_ : World.drewN l5 _ = l5; have h7 : Aside0 (l5.heap[b1]? = some (.cells #[.slice (some b9) l0_0.length c0_0, .slice A0_1 l0_1.length c0_1, .slice (some c1) l0_2.length c0_2] 50 (0, 0))) := ⟨by rw [← hq_]; exact (bx_ a5)⟩; have h8 : Aside0 (l5.heap[d6]? = some (.cells #[.int .i64 0, .int .i64 0] 26 (0, 0))) := ⟨by rw [← hq_]; exact (bx_ a8)⟩; have h9 : Aside0 (Below w.heap.size w l5) := ⟨by rw [← hq_]; exact (hw_ HB)⟩; clear a5 a8 HB hq_; have a5 := h7; have a8 := h8; have HB := h9; clear h7 h8 h9) | (rw [(rfl : World.drewN l5 nd = World.drewN l5 nd)]; generalize hq_ : World.drewN l5 nd = l5; have h7 : Aside0 (l5.heap[b1]? = some (.cells #[.slice (some b9) l0_0.length c0_0, .slice A0_1 l0_1.length c0_1, .slice (some c1) l0_2.length c0_2] 50 (0, 0))) := ⟨by rw [← hq_]; exact (bx_ a5)⟩; have h8 : Aside0 (l5.heap[d6]? = some (.cells #[.int .i64 0, .int .i64 0] 26 (0, 0))) := ⟨by rw [← hq_]; exact (bx_ a8)⟩; have h9 : Aside0 (Below w.heap.size w l5) := ⟨by rw [← hq_]; exact (hw_ HB)⟩; clear a5 a8 HB hq_; have a5 := h7; have a8 := h8; have HB := h9; clear h7 h8 h9) | (try (rw [drewN_self l5]; generalize hq_ : World.drewN l5 _ = l5; have h7 := qB_ hq_ a5; have h8 := qB_ hq_ a8; have h9 := qH_ hq_ HB; clear a5 a8 HB hq_; have a5 := h7; have a8 := h8; have HB := h9; clear h7 h8 h9)))
                  replace a5 := dB_ a5; replace a8 := dB_ a8; replace HB := dH_ HB
                  have q8 : 0 ≤ (a7 : Int) := od_
                  have q9 : a7 < (l0_0.length : Int) := od_
                  obtain ⟨A8, G9, g6⟩ := Kd.at_int c6.out a7 q8 q9
                  have hw137_0 := g6
                  obtain rfl : b9 = A8 := (by injection G9)
                  replace g6 := (HB.out.cell (World.block_lt_of_cell? w _ g6)).trans g6
                  replace q8 := eq_true q8; replace q9 := eq_true q9
                  have s0 : 0 ≤ ((a9) : Int) := od_
                  have s1 : (a9) < (l0_0.length : Int) := od_
                  obtain ⟨A9, H0, g7⟩ := Kd.at_int c6.out (a9) s0 s1
                  have hw138_0 := g7
                  obtain rfl : b9 = A9 := (by injection H0)
                  replace g7 := (HB.out.cell (World.block_lt_of_cell? w _ g7)).trans g7
                  replace s0 := eq_true s0; replace s1 := eq_true s1
                  have s2 : 0 ≤ ((b0) : Int) := od_
                  have s3 : (b0) < (l0_2.length : Int) := od_
                  obtain ⟨B0, H2, o3, H3, d2, n1, n2⟩ := at_L2 j2.out (b0) s2 s3
                  have hw139_0 := d2
                  obtain rfl : c1 = B0 := (by injection H3)
                  replace d2 := (HB.out.cell (World.block_lt_of_cell? w _ d2)).trans d2
                  have n3 := mk_ n2; have E6 := mk_ n1; clear n2 n1; replace s2 := eq_true s2; replace s3 := eq_true s3
                  have s4 : 0 ≤ (a7 : Int) := od_
                  have s5 : a7 < ((rd_L2 l0_2 (b0)).length : Int) := od_
                  obtain ⟨l3, H4, g8⟩ := Kd.at_int n3.out a7 s4 s5
                  have hw140_0 := g8
                  cases H4
                  replace g8 := (HB.out.cell (World.block_lt_of_cell? w _ g8)).trans g8
                  replace s4 := eq_true s4; replace s5 := eq_true s5
                  have s6 : 0 ≤ ((b0) : Int) := od_
                  have s7 : (b0) < (l0_2.length : Int) := od_
                  obtain ⟨B2, H5, H6, H7, d3, n4, n5⟩ := at_L2 j2.out (b0) s6 s7
                  have hw141_0 := d3
                  obtain rfl : c1 = B2 := (by injection H7)
                  replace d3 := (HB.out.cell (World.block_lt_of_cell? w _ d3)).trans d3
                  have n6 := mk_ n5; have E7 := mk_ n4; clear n5 n4; replace s6 := eq_true s6; replace s7 := eq_true s7
                  have ea_ := Option.some.inj (d2.symm.trans d3)
                  injection ea_ with ea_ en_ ec_
                  subst ea_; subst ec_
                  clear en_
                  have s8 : 0 ≤ ((a9) : Int) := od_
                  have s9 : (a9) < ((rd_L2 l0_2 (b0)).length : Int) := od_
                  obtain ⟨B7, H8, g9⟩ := Kd.at_int n6.out (a9) s8 s9
                  have hw142_0 := g9
                  obtain rfl : l3 = B7 := (by injection H8)
                  replace g9 := (HB.out.cell (World.block_lt_of_cell? w _ g9)).trans g9
                  replace s8 := eq_true s8; replace s9 := eq_true s9
                  refine start_ (n := 37) (S := fun w' => w'.cell? ⟨b1, 0, none⟩ = some (.slice (some b9) l0_0.length c0_0) ∧ w'.cell? ⟨b1, 1, none⟩ = some (.slice A0_1 l0_1.length c0_1) ∧ w'.cell? ⟨b1, 2, none⟩ = some (.slice (some c1) l0_2.length c0_2) ∧ w'.cell? (b9.add (a7).toNat) = some (.int .i64 (rd l0_0 a7)) ∧ w'.cell? (b9.add ((a9)).toNat) = some (.int .i64 (rd l0_0 (a9))) ∧ w'.cell? (c1.add ((b0)).toNat) = some (.slice (some l3) (rd_L2 l0_2 (b0)).length o3) ∧ w'.cell? (l3.add (a7).toNat) = some (.int .i64 (rd (rd_L2 l0_2 (b0)) a7)) ∧ w'.cell? (c1.add ((b0)).toNat) = some (.slice (some l3) (rd_L2 l0_2 (b0)).length o3) ∧ w'.cell? (l3.add ((a9)).toNat) = some (.int .i64 (rd (rd_L2 l0_2 (b0)) (a9)))) (ds := []) (bs_ 37 0) (by kernel_rfl) rfl (by kernel_rfl) ⟨bc0_ a5, bc1_ a5, bc2_ a5, ((HB.out.cell (World.block_lt_of_cell? w _ hw137_0)).trans hw137_0), ((HB.out.cell (World.block_lt_of_cell? w _ hw138_0)).trans hw138_0), ((HB.out.cell (World.block_lt_of_cell? w _ hw139_0)).trans hw139_0), ((HB.out.cell (World.block_lt_of_cell? w _ hw140_0)).trans hw140_0), ((HB.out.cell (World.block_lt_of_cell? w _ hw141_0)).trans hw141_0), ((HB.out.cell (World.block_lt_of_cell? w _ hw142_0)).trans hw142_0)⟩ (fun hHeld => ?_); refine with_tabW impl_AtGrid.tab5 impl_AtGrid.bits5 (fun HT_ HW_ => ?_)
                  generalize l5.drew = l6 at a5 a8 HB n3 n6 g6 g7 d2 g8 d3 g9 hHeld ⊢
                  refine pu_ HT_ 0 96 (bs_ 37 1) ?_; refine pu_ HT_ 2 98 (bs_ 37 5) ?_; refine pu_ HT_ 5 101 (bs_ 37 37) ?_; refine pu_ HT_ 7 103 (bs_ 37 165) ?_; refine pu_ HT_ 8 104 (bs_ 37 421) ?_; refine pu_ HT_ 11 107 (bs_ 37 2469) ?_; refine pu_ HT_ 13 109 (bs_ 37 10661) ?_; refine pu_ HT_ 14 110 (bs_ 37 27045) ?_; refine pu_ HT_ 17 113 (bs_ 37 158117) ?_; refine pu_ HT_ 20 116 (bs_ 37 1206693) ?_; refine pu_ HT_ 22 118 (bs_ 37 5400997) ?_; refine pu_ HT_ 23 119 (bs_ 37 13789605) ?_; refine pu_ HT_ 26 122 (bs_ 37 80898469) ?_; refine pu_ HT_ 27 123 (bs_ 37 215116197) ?_; refine pu_ HT_ 30 126 (bs_ 37 1288858021) ?_; refine tk_ HT_ HW_ 1 97 (bs_ 37 1288858023) hHeld ?_; refine pu_ HT_ 3 99 (bs_ 37 1288858031) ?_; refine tk_ HT_ HW_ 4 100 (bs_ 37 1288858047) hHeld ?_; refine tk_ HT_ HW_ 6 102 (bs_ 37 1288858111) hHeld ?_; refine pu_ HT_ 9 105 (bs_ 37 1288858623) ?_; refine tk_ HT_ HW_ 10 106 (bs_ 37 1288859647) hHeld ?_; refine tk_ HT_ HW_ 12 108 (bs_ 37 1288863743) hHeld ?_; refine pu_ HT_ 15 111 (bs_ 37 1288896511) ?_; refine tk_ HT_ HW_ 16 112 (bs_ 37 1288962047) hHeld ?_; refine pu_ HT_ 18 114 (bs_ 37 1289224191) ?_; refine tk_ HT_ HW_ 19 115 (bs_ 37 1289748479) hHeld ?_; refine tk_ HT_ HW_ 21 117 (bs_ 37 1291845631) hHeld ?_; refine pu_ HT_ 24 120 (bs_ 37 1308622847) ?_; refine tk_ HT_ HW_ 25 121 (bs_ 37 1342177279) hHeld ?_; refine pu_ HT_ 28 124 (bs_ 37 1610612735) ?_; refine tk_ HT_ HW_ 29 125 (bs_ 37 2147483647) hHeld ?_
                  refine one_ (i := 31) (N := some 127) (bs_ 37 4294967295) rfl rfl (one_of HT_.out (by kernel_rfl)) (by decide) (fun K hK => ?_)
                  refine goes_ Try.func67 (by kernel_rfl) rfl #[.int .i64 (rd l0_0 a7), .int .i64 (rd l0_0 (a9)), .int .i64 (rd (rd_L2 l0_2 (b0)) a7), .int .i64 (rd (rd_L2 l0_2 (b0)) (a9)), .int .i64 a1] (by rfl) rfl rfl (by (try simp only [List.map_toArray, List.map_cons, List.map_nil]); first | done | (simp only [h6, g1]; rfl) | rfl | (simp only [List.length_drop, List.length_take]; rfl)) ?_
                  with_reducible refine (impl_between.calls (rd l0_0 a7) (rd l0_0 (a9)) (rd (rd_L2 l0_2 (b0)) a7) (rd (rd_L2 l0_2 (b0)) (a9)) a1 o4 F9 _ M3.out).mono ?_
                  rintro e w' ⟨rfl, ⟨nd, rfl⟩⟩
                  refine ⟨_, rfl, ?_⟩
                  refine hK.out _ _ ⟨bc0_ a5, bc1_ a5, bc2_ a5, ((HB.out.cell (World.block_lt_of_cell? w _ hw137_0)).trans hw137_0), ((HB.out.cell (World.block_lt_of_cell? w _ hw138_0)).trans hw138_0), ((HB.out.cell (World.block_lt_of_cell? w _ hw139_0)).trans hw139_0), ((HB.out.cell (World.block_lt_of_cell? w _ hw140_0)).trans hw140_0), ((HB.out.cell (World.block_lt_of_cell? w _ hw141_0)).trans hw141_0), ((HB.out.cell (World.block_lt_of_cell? w _ hw142_0)).trans hw142_0)⟩ (fun hHeld => ?_)
                  clear hK K; refine nm_ 127 ?_; refine pu_ HT_ 32 95 (bs_ 37 8589934591) ?_; refine pu_ HT_ 33 128 (bs_ 37 17179869183) ?_; refine pu_ HT_ 34 129 (bs_ 37 34359738367) ?_; refine pu_ HT_ 35 12 (bs_ 37 68719476735) ?_; refine pu_ HT_ 36 13 (bs_ 37 137438953471) ?_
                  refine done_ (done_of HT_.out (by kernel_rfl)) ?_
                  try go_wp2
                  (first | (rw [World.drewN_drewN]; (repeat rw [World.drewN_drewN]); generalize hq_ : World.drewN l6 _ = l6; have h7 : Aside0 (l6.heap[b1]? = some (.cells #[.slice (some b9) l0_0.length c0_0, .slice A0_1 l0_1.length c0_1, .slice (some c1) l0_2.length c0_2] 50 (0, 0))) := ⟨by rw [← hq_]; exact (bx_ a5)⟩; have h8 : Aside0 (l6.heap[d6]? = some (.cells #[.int .i64 0, .int .i64 0] 26 (0, 0))) := ⟨by rw [← hq_]; exact (bx_ a8)⟩; have h9 : Aside0 (Below w.heap.size w l6) := ⟨by rw [← hq_]; exact (hw_ HB)⟩; clear a5 a8 HB hq_; have a5 := h7; have a8 := h8; have HB := h9; clear h7 h8 h9) | (rw [(rfl : World.drewN l6 nd = World.drewN l6 nd)]; generalize hq_ : World.drewN l6 nd = l6; have h7 : Aside0 (l6.heap[b1]? = some (.cells #[.slice (some b9) l0_0.length c0_0, .slice A0_1 l0_1.length c0_1, .slice (some c1) l0_2.length c0_2] 50 (0, 0))) := ⟨by rw [← hq_]; exact (bx_ a5)⟩; have h8 : Aside0 (l6.heap[d6]? = some (.cells #[.int .i64 0, .int .i64 0] 26 (0, 0))) := ⟨by rw [← hq_]; exact (bx_ a8)⟩; have h9 : Aside0 (Below w.heap.size w l6) := ⟨by rw [← hq_]; exact (hw_ HB)⟩; clear a5 a8 HB hq_; have a5 := h7; have a8 := h8; have HB := h9; clear h7 h8 h9) | (try (rw [drewN_self l6]; generalize hq_ : World.drewN l6 _ = l6; have h7 := qB_ hq_ a5; have h8 := qB_ hq_ a8; have h9 := qH_ hq_ HB; clear a5 a8 HB hq_; have a5 := h7; have a8 := h8; have HB := h9; clear h7 h8 h9)))
                  replace a5 := dB_ a5; replace a8 := dB_ a8; replace HB := dH_ HB
                  have t0 : 0 ≤ (a6 : Int) := od_
                  have t1 : a6 < (l0_1.length : Int) := od_
                  obtain ⟨n7, H9, h2⟩ := Kd.at_int h5.out a6 t0 t1
                  have hw145_0 := h2
                  cases H9
                  replace h2 := (HB.out.cell (World.block_lt_of_cell? w _ h2)).trans h2
                  replace t0 := eq_true t0; replace t1 := eq_true t1
                  have t2 : 0 ≤ ((b0) : Int) := od_
                  have t3 : (b0) < (l0_1.length : Int) := od_
                  obtain ⟨B8, I0, h3⟩ := Kd.at_int h5.out (b0) t2 t3
                  have hw146_0 := h3
                  obtain rfl : n7 = B8 := (by injection I0)
                  replace h3 := (HB.out.cell (World.block_lt_of_cell? w _ h3)).trans h3
                  replace t2 := eq_true t2; replace t3 := eq_true t3
                  refine start_ (n := 20) (S := fun w' => w'.cell? ⟨b1, 0, none⟩ = some (.slice (some b9) l0_0.length c0_0) ∧ w'.cell? ⟨b1, 1, none⟩ = some (.slice (some n7) l0_1.length c0_1) ∧ w'.cell? ⟨b1, 2, none⟩ = some (.slice (some c1) l0_2.length c0_2) ∧ w'.cell? (n7.add (a6).toNat) = some (.int .i64 (rd l0_1 a6)) ∧ w'.cell? (n7.add ((b0)).toNat) = some (.int .i64 (rd l0_1 (b0)))) (ds := []) (bs_ 20 0) (by kernel_rfl) rfl (by kernel_rfl) ⟨bc0_ a5, bc1_ a5, bc2_ a5, ((HB.out.cell (World.block_lt_of_cell? w _ hw145_0)).trans hw145_0), ((HB.out.cell (World.block_lt_of_cell? w _ hw146_0)).trans hw146_0)⟩ (fun hHeld => ?_); refine with_tabW impl_AtGrid.tab6 impl_AtGrid.bits6 (fun HT_ HW_ => ?_)
                  generalize l6.drew = N3 at a5 a8 HB h2 h3 hHeld ⊢
                  refine pu_ HT_ 0 131 (bs_ 20 1) ?_; refine pu_ HT_ 2 133 (bs_ 20 5) ?_; refine pu_ HT_ 5 136 (bs_ 20 37) ?_; refine pu_ HT_ 7 138 (bs_ 20 165) ?_; refine pu_ HT_ 8 139 (bs_ 20 421) ?_; refine pu_ HT_ 11 142 (bs_ 20 2469) ?_; refine pu_ HT_ 12 143 (bs_ 20 6565) ?_; refine pu_ HT_ 13 144 (bs_ 20 14757) ?_; refine tk_ HT_ HW_ 1 132 (bs_ 20 14759) hHeld ?_; refine pu_ HT_ 3 134 (bs_ 20 14767) ?_; refine tk_ HT_ HW_ 4 135 (bs_ 20 14783) hHeld ?_; refine tk_ HT_ HW_ 6 137 (bs_ 20 14847) hHeld ?_; refine pu_ HT_ 9 140 (bs_ 20 15359) ?_; refine tk_ HT_ HW_ 10 141 (bs_ 20 16383) hHeld ?_
                  refine one_ (i := 14) (N := some 145) (bs_ 20 32767) rfl rfl (one_of HT_.out (by kernel_rfl)) (by decide) (fun K hK => ?_)
                  refine goes_ Try.func67 (by kernel_rfl) rfl #[.int .i64 (rd l0_1 a6), .int .i64 (rd l0_1 (b0)), .int .i64 n9, .int .i64 o4, .int .i64 a2] (by rfl) rfl rfl (by (try simp only [List.map_toArray, List.map_cons, List.map_nil]); first | done | (simp only [g1]; rfl) | rfl | (simp only [List.length_drop, List.length_take]; rfl)) ?_
                  with_reducible refine (impl_between.calls (rd l0_1 a6) (rd l0_1 (b0)) n9 o4 a2 o5 o6 _ M4.out).mono ?_
                  rintro e w' ⟨rfl, ⟨nd, rfl⟩⟩
                  refine ⟨_, rfl, ?_⟩
                  refine hK.out _ _ ⟨bc0_ a5, bc1_ a5, bc2_ a5, ((HB.out.cell (World.block_lt_of_cell? w _ hw145_0)).trans hw145_0), ((HB.out.cell (World.block_lt_of_cell? w _ hw146_0)).trans hw146_0)⟩ (fun hHeld => ?_)
                  clear hK K; refine nm_ 145 ?_; refine pu_ HT_ 15 130 (bs_ 20 65535) ?_; refine pu_ HT_ 16 146 (bs_ 20 131071) ?_; refine pu_ HT_ 17 147 (bs_ 20 262143) ?_; refine pu_ HT_ 18 14 (bs_ 20 524287) ?_; refine pu_ HT_ 19 15 (bs_ 20 1048575) ?_
                  refine done_ (done_of HT_.out (by kernel_rfl)) ?_
                  try go_wp2_with (first | ((with_reducible refine gc_ 68 rfl ?_); refine gl_ (some 152) rfl Try.func68 #[.int .i64 o5, .int .i64 (wrap64 (m1 * o6))] ?_; (with_reducible refine (impl_frac.calls kj3 o5 (wrap64 (m1 * o6)) o7 p5 _ M5.out).mono ?_); rintro e N4 ⟨rfl, hb⟩; refine ⟨_, rfl, ?_⟩; replace a5 := bk_ a5 hb; replace a8 := bk_ a8 hb; replace HB := hk_ HB hb; (try clear hb); (try clear F6); (try clear hk); (try clear hi); have L6 := j3.out; have L7 := h4.out; have E8 := bc0_ a8; have E9 := bc1_ a8; have F0 := bf_ a8 0; have F1 := bf_ a8 1))
                  refine bodyPost_ret (results_ct rfl _ _ d6 26 #[.int .i64 o7, .int .i64 p5] (0, 0) _ rfl (by (with_reducible repeat (first | refine blk_drewN ?_ _ | refine blk_drew ?_ | refine blk_alloc ?_ _)); refine blk_put (cs := #[.int .i64 o7, .int .i64 0]) ?_ 1 _ rfl; (with_reducible repeat (first | refine blk_drewN ?_ _ | refine blk_drew ?_ | refine blk_alloc ?_ _)); refine blk_put (cs := #[.int .i64 0, .int .i64 0]) ?_ 0 _ rfl; (with_reducible repeat (first | refine blk_drewN ?_ _ | refine blk_drew ?_ | refine blk_alloc ?_ _)); exact a8.out) Try.underlying26 rfl (by kernel_rfl)) rfl ?_
                  exact ⟨by first | rfl | (simp [errW_none, errW_some] <;> rfl) | (simp only [← h6, ← g1]; first | rfl | (simp [errW_none, errW_some] <;> rfl)) | (simp [*, errW_none, errW_some] <;> rfl), by repeat (first | (with_reducible first | exact HB.out | apply below_alloc | apply pw_below_drewN | apply below_drew1 | refine below_set ?_ o8.out) | exact HB.out)⟩
                 ·rw [if_neg E3] at H
                  exact absurd H (by simp)
                ·rw [if_neg E2] at H
                 exact absurd H (by simp)
               ·rw [if_neg E1] at H
                exact absurd H (by simp)
              ·rw [if_neg E0] at H
               exact absurd H (by simp)
             ·rw [if_neg D9] at H
              exact absurd H (by simp)
            ·rw [if_neg D8] at H
             exact absurd H (by simp)
           ·rw [if_neg D7] at H
            exact absurd H (by simp)
          ·rw [if_neg D6] at H
           exact absurd H (by simp)
         ·rw [if_neg D5] at H
          exact absurd H (by simp)
        ·rw [if_neg D4] at H
         exact absurd H (by simp)
       ·rw [if_neg D3] at H
        exact absurd H (by simp)
      ·rw [if_neg D2] at H
       exact absurd H (by simp)
     ·rw [if_neg D1] at H
      exact absurd H (by simp)
    ·rw [if_neg D0] at H
     exact absurd H (by simp)

end Go.Proofs.Ytkginilghcepbaa.QFnGrid
-- squeezed
