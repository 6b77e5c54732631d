/- Lean functions that tell what the Go functions used by one law answer, and for each a proof that the Go code comes to just these answers; no condition. Printed by this session's own program over the kit's printer. -/
import Derived.Test.YtnphbpkpjinddaaWSq
import Derived.Test.YtnphbpkpjinddaaQFnTablesx0
import Derived.Test.YtnphbpkpjinddaaQFnTablesx1
namespace Go.Proofs.Ytnphbpkpjinddaa.QFnTables
open Go.RowKit Go.Proofs.YtnphbpkpjinddaaW.PrintWords Go.Proofs.YtnphbpkpjinddaaW.PrintLast Go.Proofs.YtnphbpkpjinddaaW.PrintMore
attribute [local go_sem] max2_int min2_int max_two min_two max_three min_three max_four min_four   -- for this text's walks alone
attribute [local go_sem high] go_eql go_neq go_lss go_leq go_gtr go_geq go_store   -- for this text's walks alone
set_option linter.unusedVariables false
set_option linter.unusedSimpArgs false

/-! ### impl_At: function 27 -/
def impl_At.j0 : Nat → Int → Bool → List Int → List Int → Option (Int × Int × Bool)
 | 0, _, _, _, _ => none
 | k + 1, x1, p9, b4, c1 => if p9 = true then (some (0, 0, false)) else ((impl_piece.f k b4 x1).bind fun a4 => (if 0 ≤ a4 then (if a4 < (b4.length : Int) then (if 0 ≤ (wrap64 (a4 + 1)) then (if (wrap64 (a4 + 1)) < (b4.length : Int) then (if a4 < (c1.length : Int) then (if (wrap64 (a4 + 1)) < (c1.length : Int) then ((impl_between.f (rd b4 a4) (rd b4 (wrap64 (a4 + 1))) (rd c1 a4) (rd c1 (wrap64 (a4 + 1))) x1).bind fun b2 => ((impl_frac.f k b2.1 b2.2).bind fun b0 => (some (b0.1, b0.2, true)))) else (none)) else (none)) else (none)) else (none)) else (none)) else (none)))
def impl_At.f (k : Nat) (l0_0 : List Int) (l0_1 : List Int) (a1 : Int) : Option (Int × Int × Bool) := (impl_CurveOk.f k l0_0 l0_1).bind fun d5 => (if d5 = true then (if 0 < (l0_0.length : Int) then (if 0 ≤ (wrap64 ((l0_0.length : Int) - 1)) then (if (wrap64 ((l0_0.length : Int) - 1)) < (l0_0.length : Int) then ((impl_in.f a1 (rd l0_0 0) (rd l0_0 (wrap64 ((l0_0.length : Int) - 1)))).bind fun c0 => (impl_At.j0 k a1 (!c0) l0_0 l0_1)) else (none)) else (none)) else (none)) else (impl_At.j0 k a1 true l0_0 l0_1))
theorem impl_At.mono_l : ∀ k, (∀ y0 y1 y2 y3, LeO (impl_At.j0 k y0 y1 y2 y3) (impl_At.j0 (k + 1) y0 y1 y2 y3))
 | 0 => fun _ _ _ _ r h => by simp [impl_At.j0] at h
 | k + 1 => by
  have h8 := impl_At.mono_l k
  ·intro y0 y1 y2 y3
   unfold impl_At.j0
   repeat' first
   | (with_reducible exact h8 _ _ _ _)
   | (with_reducible exact impl_CurveOk.mono _ _ _)
   | (with_reducible exact impl_frac.mono _ _ _)
   | (with_reducible exact impl_piece.mono _ _ _)
   | (with_reducible exact LeO.refl _)
   | (with_reducible exact LeO.none _)
   | (with_reducible refine LeO.ite ?_ ?_)
   | (with_reducible refine LeO.bind ?_ (fun _ => ?_))
   | exact h8 _ _ _ _
   | exact impl_CurveOk.mono _ _ _
   | exact impl_frac.mono _ _ _
   | exact impl_piece.mono _ _ _
   | exact LeO.none _
   | refine LeO.ite ?_ ?_
   | refine LeO.bind ?_ (fun _ => ?_)
theorem impl_At.mono : ∀ a0 a1 a2 k, LeO (impl_At.f k a0 a1 a2) (impl_At.f (k + 1) a0 a1 a2) := by
 intro a0 a1 a2 k
 have h8 := impl_At.mono_l k
 unfold impl_At.f
 repeat' first
   | (with_reducible exact h8 _ _ _ _)
   | (with_reducible exact impl_CurveOk.mono _ _ _)
   | (with_reducible exact impl_frac.mono _ _ _)
   | (with_reducible exact impl_piece.mono _ _ _)
   | (with_reducible exact LeO.refl _)
   | (with_reducible exact LeO.none _)
   | (with_reducible refine LeO.ite ?_ ?_)
   | (with_reducible refine LeO.bind ?_ (fun _ => ?_))
   | exact h8 _ _ _ _
   | exact impl_CurveOk.mono _ _ _
   | exact impl_frac.mono _ _ _
   | exact impl_piece.mono _ _ _
   | exact LeO.none _
   | refine LeO.ite ?_ ?_
   | refine LeO.bind ?_ (fun _ => ?_)
def impl_At.T1 : Bool × List (List Nat × List Nat) := (true, [([], []), ([0], [0]), ([1], [1]), ([2, 1], [2]), ([3], [3]), ([3], [3]), ([5, 3], [3, 5]), ([6, 3], [3, 6]), ([7, 3], [3, 7]), ([3], [3]), ([9, 3], [3, 9]), ([3], [3]), ([11, 3], [3, 11]), ([12, 3], [3, 12]), ([13, 3], [3, 13]), ([10, 14, 3], [3, 10, 14]), ([15, 3], [3, 15]), ([4, 8, 16, 3, 3], [3, 4, 8, 16]), ([17, 3], [3, 17]), ([3, 18], [3, 18])])
def impl_At.B1 : List Nat := [0, 1, 3, 7, 15, 15, 47, 111, 239, 15, 527, 15, 2063, 6159, 14351, 32271, 65039, 131071, 262143, 524287]
theorem impl_At.tab1 : rtab .any (opsOf Try.f27 1) = impl_At.T1 := by kernel_rfl
theorem impl_At.bits1 : waitsOk impl_At.T1.2 impl_At.B1 = true := by kernel_rfl
def impl_At.T4 : Bool × List (List Nat × List Nat) := (true, [([], []), ([0], [0]), ([], []), ([1, 2], [1, 2]), ([3], [3]), ([], []), ([5], [5]), ([], []), ([7], [7]), ([6, 8], [6, 8]), ([9], [9]), ([], []), ([11], [11]), ([], []), ([12, 13], [12, 13]), ([14], [14]), ([], []), ([16], [16]), ([], []), ([18], [18]), ([17, 19], [17, 19]), ([20], [20]), ([], []), ([4, 10, 15, 21, 22], [4, 10, 15, 21, 22]), ([23], [23]), ([23], [23]), ([24, 25, 23], [24, 25]), ([26, 26, 0, 1, 2, 3, 4, 5, 6, 7, 8, 9, 10, 11, 12, 13, 14, 15, 16, 17, 18, 19, 20, 21, 22, 23, 24, 25, 26], [26]), ([27, 0, 1, 2, 3, 4, 5, 6, 7, 8, 9, 10, 11, 12, 13, 14, 15, 16, 17, 18, 19, 20, 21, 22, 23, 24, 25, 26, 27], [])])
def impl_At.B4 : List Nat := [0, 1, 0, 7, 15, 0, 32, 0, 128, 480, 992, 0, 2048, 0, 14336, 30720, 0, 65536, 0, 262144, 983040, 2031616, 0, 8388607, 16777215, 16777215, 67108863, 134217727, 268435455]
theorem impl_At.tab4 : rtab .any (opsOf Try.f27 4) = impl_At.T4 := by kernel_rfl
theorem impl_At.bits4 : waitsOk impl_At.T4.2 impl_At.B4 = true := by kernel_rfl
set_option maxHeartbeats 8000000 in
set_option maxRecDepth 100000 in
theorem impl_At.calls (k : Nat) (A0_0 : Option Addr) (c0_0 : Nat) (l0_0 : List Int) (A0_1 : Option Addr) (c0_1 : Nat) (l0_1 : List Int) (a1 : Int) (r1 : Int) (r2 : Int) (r3 : Bool) (w : World) (hr0_0 : Kd.C (Kd.int .i64) w A0_0 l0_0.length l0_0) (hc0_0 : l0_0.length ≤ c0_0) (hr0_1 : Kd.C (Kd.int .i64) w A0_1 l0_1.length l0_1) (hc0_1 : l0_1.length ≤ c0_1) (h : impl_At.f k l0_0 l0_1 a1 = some (r1, r2, r3)) :
  Calls Try.prog 27 #[.agg #[.slice A0_0 l0_0.length c0_0, .slice A0_1 l0_1.length c0_1], .int .i64 a1] w fun e w' => e = .returned (.tuple #[.agg #[.int .i64 r1, .int .i64 r2], .bool r3]) ∧ Below w.heap.size w w' := by
 have q0 := Try.underlying51
 have q1 := Try.underlying48
 have c2 := mk_ hr0_0; have d6 := mk_ hc0_0; clear hr0_0 hc0_0; have d1 := mk_ hr0_1; have g3 := mk_ hc0_1; clear hr0_1 hc0_1; have HB := mk_ (Below.refl w.heap.size w)
 have H : ((impl_CurveOk.f k l0_0 l0_1).bind fun d5 => (if d5 = true then (if 0 < (l0_0.length : Int) then (if 0 ≤ (wrap64 ((l0_0.length : Int) - 1)) then (if (wrap64 ((l0_0.length : Int) - 1)) < (l0_0.length : Int) then ((impl_in.f a1 (rd l0_0 0) (rd l0_0 (wrap64 ((l0_0.length : Int) - 1)))).bind fun c0 => (impl_At.j0 k a1 (!c0) l0_0 l0_1)) else (none)) else (none)) else (none)) else (impl_At.j0 k a1 true l0_0 l0_1))) = some (r1, r2, r3) := h
 clear h; have n0 := mk_ H; clear H
 go_enter Try.func27, Try.ntmps27
 go_upto_region 1 with (first | ((with_reducible refine gd_ 2 rfl ?_); (try (refine gate_guard (by rfl) ?_; dsimp only)); refine box_event ?hg (N := 2) ?hd (cs := #[.slice A0_0 l0_0.length c0_0, .slice A0_1 l0_1.length c0_1]) (t := 51) ?hr ?_; (case hd => rfl); (case hg => rfl); (case hr => exact hr_); intro c3 hg w4 hbox hb; have a3 := mk_ (hbox); have h9 := gb_ hg HB; replace HB := bp_ HB hb; have n7 := h9; clear hb hbox hg) | ((with_reducible refine gd_ 4 rfl ?_); (try (refine gate_guard (by rfl) ?_; dsimp only)); refine box_event ?hg (N := 4) ?hd (cs := #[.int .i64 0, .int .i64 0]) (t := 48) ?hr ?_; (case hd => rfl); (case hg => rfl); (case hr => exact hr_); intro a8 hg w5 hbox hb; have a6 := mk_ (hbox); have a5 := gb_ hg HB; replace HB := bp_ HB hb; have g4 := a5; have a7 := nb_ hg a3; replace a3 := bl_ a3 hb; have b3 := ns_ a7; clear hb hbox hg))
 (try simp only [Act.put, List.setIfInBounds_toArray, List.set_cons_zero, List.set_cons_succ])
 go_cut [26] (fun v26 wc => ∃ (kq : Nat) (d2 : Bool), v26 = .bool d2 ∧ Aside0 (impl_At.j0 kq a1 d2 l0_0 l0_1 = some (r1, r2, r3)) ∧ Aside0 (kq ≤ k) ∧ Aside0 (wc.heap[c3]? = some (.cells #[(.slice A0_0 l0_0.length c0_0), (.slice A0_1 l0_1.length c0_1)] 51 (0, 0))) ∧ Aside0 (wc.heap[a8]? = some (.cells #[.int .i64 0, .int .i64 0] 48 (0, 0))) ∧ Aside0 (Below w.heap.size w wc))
 case first => as_aux_lemma =>
  have H := n0.out; clear n0; replace H := Option.bind_eq_some_iff.mp H; obtain ⟨d5, n8, H⟩ := H
  replace H : (if d5 = true then (if 0 < (l0_0.length : Int) then (if 0 ≤ (wrap64 ((l0_0.length : Int) - 1)) then (if (wrap64 ((l0_0.length : Int) - 1)) < (l0_0.length : Int) then ((impl_in.f a1 (rd l0_0 0) (rd l0_0 (wrap64 ((l0_0.length : Int) - 1)))).bind fun c0 => (impl_At.j0 k a1 (!c0) l0_0 l0_1)) else (none)) else (none)) else (none)) else (impl_At.j0 k a1 true l0_0 l0_1)) = some (r1, r2, r3) := H
  have A6 := mk_ n8; clear n8; by_cases c7 : d5 = true
  ·subst c7
   have H1 : (if 0 < (l0_0.length : Int) then (if 0 ≤ (wrap64 ((l0_0.length : Int) - 1)) then (if (wrap64 ((l0_0.length : Int) - 1)) < (l0_0.length : Int) then ((impl_in.f a1 (rd l0_0 0) (rd l0_0 (wrap64 ((l0_0.length : Int) - 1)))).bind fun c0 => (impl_At.j0 k a1 (!c0) l0_0 l0_1)) else (none)) else (none)) else (none)) = some (r1, r2, r3) := by rw [if_pos rfl] at H; exact H
   clear H
   have H := H1
   clear H1; by_cases c8 : 0 < (l0_0.length : Int)
   ·rw [if_pos c8] at H; have j1 : decide (0 < (l0_0.length : Int)) = true := decide_eq_true c8; have q2 : decide (0 < l0_0.length) = true := decide_eq_true (by omega); clear c8
    (first | rw [j1] | (simp only [i64_w, i32_w]; rw [j1]) | skip)
    obtain ⟨d0, d7⟩ : ∃ j_ : Int, (wrap64 ((l0_0.length : Int) - 1)) = j_ := ⟨_, rfl⟩
    replace H : (if 0 ≤ (d0) then (if (d0) < (l0_0.length : Int) then ((impl_in.f a1 (rd l0_0 0) (rd l0_0 (d0))).bind fun c0 => (impl_At.j0 k a1 (!c0) l0_0 l0_1)) else (none)) else (none)) = some (r1, r2, r3) := by first | (rw [d7] at H; exact H) | (simp only [d7] at H ⊢; exact H)
    (try rw [d7] at A6)
    have hji9w : (IntKind.i64.wrap ((l0_0.length : Int) - 1)) = d0 := (i64_w _).trans d7
    by_cases j9 : 0 ≤ (d0)
    ·rw [if_pos j9] at H; have n9 : decide (0 ≤ (d0)) = true := decide_eq_true j9; clear j9; by_cases l0 : (d0) < (l0_0.length : Int)
     ·rw [if_pos l0] at H; have o0 : decide ((d0) < (l0_0.length : Int)) = true := decide_eq_true l0; clear l0; replace H := Option.bind_eq_some_iff.mp H; obtain ⟨c0, j2, H⟩ := H
      replace H : (impl_At.j0 k a1 (!c0) l0_0 l0_1) = some (r1, r2, r3) := H
      have q3 := mk_ j2; clear j2
      have H' := mk_ H
      clear H
      try go_wp2
      replace a3 := dB_ a3; replace a6 := dB_ a6; replace HB := dH_ HB
      have g5 : 0 ≤ (0 : Int) := (by omega)
      have g6 : 0 < (l0_0.length : Int) := od_
      obtain ⟨c5, n1, b1⟩ := Kd.at_int c2.out 0 g5 g6
      have hw117_0 := b1
      (try rw [show ((0 : Int)).toNat = 0 from rfl] at hw117_0)
      (try rw [show 0 * 1 = 0 from rfl] at hw117_0)
      (try rw [Addr.add_zero'] at hw117_0)
      cases n1
      have qi117 : (0 < l0_0.length) = True := eq_true (by omega)
      (try rw [show ((0 : Int)).toNat = 0 from rfl] at b1)
      (try rw [Addr.add_zero'] at b1)
      replace b1 := (HB.out.cell (World.block_lt_of_cell? w _ b1)).trans b1
      replace g5 := eq_true g5; replace g6 := eq_true g6
      have g7 : 0 ≤ ((d0) : Int) := od_
      have g8 : (d0) < (l0_0.length : Int) := od_
      obtain ⟨j3, n2, b5⟩ := Kd.at_int c2.out (d0) g7 g8
      have hw118_0 := b5
      obtain rfl : c5 = j3 := (by injection n2)
      replace b5 := (HB.out.cell (World.block_lt_of_cell? w _ b5)).trans b5
      replace g7 := eq_true g7; replace g8 := eq_true g8
      refine start_ (n := 20) (S := fun w' => w'.cell? ⟨c3, 0, none⟩ = some (.slice (some c5) l0_0.length c0_0) ∧ w'.cell? ⟨c3, 1, none⟩ = some (.slice A0_1 l0_1.length c0_1) ∧ w'.cell? c5 = some (.int .i64 (rd l0_0 0)) ∧ w'.cell? (c5.add ((d0)).toNat) = some (.int .i64 (rd l0_0 (d0)))) (ds := []) (bs_ 20 0) (by kernel_rfl) rfl (by kernel_rfl) ⟨bc0_ a3, bc1_ a3, ((HB.out.cell (World.block_lt_of_cell? w _ hw117_0)).trans hw117_0), ((HB.out.cell (World.block_lt_of_cell? w _ hw118_0)).trans hw118_0)⟩ (fun hHeld => ?_); refine with_tabW impl_At.tab1 impl_At.bits1 (fun HT_ HW_ => ?_)
      generalize w5.drew = q8 at a3 a6 HB b1 b5 hHeld ⊢
      refine tk_ HT_ HW_ 0 7 (bs_ 20 1) hHeld ?_
      refine one_ (i := 1) (N := some 8) (bs_ 20 3) rfl rfl (one_of HT_.out (by kernel_rfl)) (by decide) (fun K hK => ?_)
      refine gs_ Try.func32 #[.agg #[.slice (some c5) l0_0.length c0_0, .slice A0_1 l0_1.length c0_1]] ?_
      with_reducible refine (impl_CurveOk.calls k _ _ l0_0 _ _ l0_1 true _ ?c6 ?c9 ?d8 ?d9 A6.out).mono ?_
      (case c6 => exact cw_ (Kd.C_below c2.out HB.out))
      (case c9 => exact d6.out)
      (case d8 => exact cw_ (Kd.C_below d1.out HB.out))
      (case d9 => exact g3.out)
      rintro e q9 ⟨rfl, hb⟩
      refine ⟨_, rfl, ?_⟩
      replace a3 := bk_ a3 hb; replace a6 := bk_ a6 hb; replace HB := hk_ HB hb
      (try clear hb); (try clear o1); (try clear hk); (try clear hi)
      refine hK.out _ _ ⟨bc0_ a3, bc1_ a3, ((HB.out.cell (World.block_lt_of_cell? w _ hw117_0)).trans hw117_0), ((HB.out.cell (World.block_lt_of_cell? w _ hw118_0)).trans hw118_0)⟩ (fun hHeld => ?_)
      clear hK K; refine nm_ 8 ?_; refine pu_ HT_ 2 9 (bs_ 20 7) ?_; refine pu_ HT_ 3 10 (bs_ 20 15) ?_; refine pu_ HT_ 4 11 (bs_ 20 31) ?_; refine pu_ HT_ 5 12 (bs_ 20 63) ?_; refine pu_ HT_ 9 16 (bs_ 20 575) ?_; refine pu_ HT_ 11 18 (bs_ 20 2623) ?_; refine tk_ HT_ HW_ 6 13 (bs_ 20 2687) hHeld ?_; refine pu_ HT_ 7 14 (bs_ 20 2815) ?_; refine tk_ HT_ HW_ 8 15 (bs_ 20 3071) hHeld ?_; refine tk_ HT_ HW_ 10 17 (bs_ 20 4095) hHeld ?_; refine tk_ HT_ HW_ 12 19 (bs_ 20 8191) hHeld ?_; refine pu_ HT_ 13 20 (bs_ 20 16383) ?_; refine pu_ HT_ 14 21 (bs_ 20 32767) ?_; refine pu_ HT_ 15 22 (bs_ 20 65535) ?_; refine tk_ HT_ HW_ 16 23 (bs_ 20 131071) hHeld ?_
      refine one_ (i := 17) (N := some 24) (bs_ 20 262143) rfl rfl (one_of HT_.out (by kernel_rfl)) (by decide) (fun K hK => ?_)
      refine goes_ Try.func76 (by kernel_rfl) rfl #[.int .i64 a1, .int .i64 (rd l0_0 0), .int .i64 (rd l0_0 (d0))] (by rfl) rfl rfl (by (try simp only [List.map_toArray, List.map_cons, List.map_nil]); first | done | (simp only [d7]; rfl) | rfl | (simp only [List.length_drop, List.length_take]; rfl)) ?_
      with_reducible refine (impl_in.calls a1 (rd l0_0 0) (rd l0_0 (d0)) c0 _ q3.out).mono ?_
      rintro e w' ⟨rfl, ⟨nd, rfl⟩⟩
      refine ⟨_, rfl, ?_⟩
      refine hK.out _ _ ⟨bc0_ a3, bc1_ a3, ((HB.out.cell (World.block_lt_of_cell? w _ hw117_0)).trans hw117_0), ((HB.out.cell (World.block_lt_of_cell? w _ hw118_0)).trans hw118_0)⟩ (fun hHeld => ?_)
      clear hK K; refine nm_ 24 ?_; refine pu_ HT_ 18 25 (bs_ 20 524287) ?_; refine pu_ HT_ 19 26 (bs_ 20 1048575) ?_
      refine done_ (done_of HT_.out (by kernel_rfl)) ?_
      try go_wp2
      go_meet
      case rel => exact ⟨_, (!c0), rf_, H', ⟨by first | omega | exact Nat.le_refl _⟩, bw_ a3, bw_ a6, ⟨hw_ HB⟩⟩
     ·rw [if_neg l0] at H
      exact absurd H (by simp)
    ·rw [if_neg j9] at H
     exact absurd H (by simp)
   ·rw [if_neg c8] at H
    exact absurd H (by simp)
  ·replace c7 := Bool.eq_false_iff.mpr c7; subst c7
   have H1 : (impl_At.j0 k a1 true l0_0 l0_1) = some (r1, r2, r3) := by rw [if_neg (show ¬ (false = true) by decide)] at H; exact H
   clear H
   have H := H1
   clear H1
   have H' := mk_ H
   clear H
   try go_wp2
   replace a3 := dB_ a3; replace a6 := dB_ a6; replace HB := dH_ HB
   refine start_ (n := 20) (S := fun w' => w'.cell? ⟨c3, 0, none⟩ = some (.slice A0_0 l0_0.length c0_0) ∧ w'.cell? ⟨c3, 1, none⟩ = some (.slice A0_1 l0_1.length c0_1)) (ds := []) (bs_ 20 0) (by kernel_rfl) rfl (by kernel_rfl) ⟨bc0_ a3, bc1_ a3⟩ (fun hHeld => ?_); refine with_tabW impl_At.tab1 impl_At.bits1 (fun HT_ HW_ => ?_)
   generalize w5.drew = s0 at a3 a6 HB hHeld ⊢
   refine tk_ HT_ HW_ 0 7 (bs_ 20 1) hHeld ?_
   refine one_ (i := 1) (N := some 8) (bs_ 20 3) rfl rfl (one_of HT_.out (by kernel_rfl)) (by decide) (fun K hK => ?_)
   refine gs_ Try.func32 #[.agg #[.slice A0_0 l0_0.length c0_0, .slice A0_1 l0_1.length c0_1]] ?_
   with_reducible refine (impl_CurveOk.calls k _ _ l0_0 _ _ l0_1 false _ ?c6 ?c9 ?d8 ?d9 A6.out).mono ?_
   (case c6 => exact cw_ (Kd.C_below c2.out HB.out))
   (case c9 => exact d6.out)
   (case d8 => exact cw_ (Kd.C_below d1.out HB.out))
   (case d9 => exact g3.out)
   rintro e s1 ⟨rfl, hb⟩
   refine ⟨_, rfl, ?_⟩
   replace a3 := bk_ a3 hb; replace a6 := bk_ a6 hb; replace HB := hk_ HB hb
   (try clear hb); (try clear o1); (try clear hk); (try clear hi)
   refine hK.out _ _ ⟨bc0_ a3, bc1_ a3⟩ (fun hHeld => ?_)
   clear hK K; refine nm_ 8 ?_; refine pu_ HT_ 2 9 (bs_ 20 7) ?_; refine pu_ HT_ 3 10 (bs_ 20 15) ?_; refine pn_ HT_ 4 11 (bs_ 20 31) ?_; refine pn_ HT_ 5 12 (bs_ 20 63) ?_; refine pn_ HT_ 6 13 (bs_ 20 127) ?_; refine pn_ HT_ 7 14 (bs_ 20 255) ?_; refine pn_ HT_ 8 15 (bs_ 20 511) ?_; refine pn_ HT_ 9 16 (bs_ 20 1023) ?_; refine pn_ HT_ 10 17 (bs_ 20 2047) ?_; refine pn_ HT_ 11 18 (bs_ 20 4095) ?_; refine pn_ HT_ 12 19 (bs_ 20 8191) ?_; refine pn_ HT_ 13 20 (bs_ 20 16383) ?_; refine pn_ HT_ 14 21 (bs_ 20 32767) ?_; refine pn_ HT_ 15 22 (bs_ 20 65535) ?_; refine pn_ HT_ 16 23 (bs_ 20 131071) ?_; refine pn_ HT_ 17 24 (bs_ 20 262143) ?_; refine pn_ HT_ 18 25 (bs_ 20 524287) ?_; refine pu_ HT_ 19 26 (bs_ 20 1048575) ?_
   refine done_ (done_of HT_.out (by kernel_rfl)) ?_
   try go_wp2
   go_meet
   case rel => exact ⟨_, (true), rf_, H', ⟨by first | omega | exact Nat.le_refl _⟩, bw_ a3, bw_ a6, ⟨hw_ HB⟩⟩
 case rest => as_aux_lemma =>
  clear n0
  obtain ⟨kq, d2, rfl, HA, s2, a3, a6, HB⟩ := hcut
  cases kq with
  | zero => exact absurd HA.out (by simp [impl_At.j0])
  | succ kj2 =>
   have H := HA.out; clear HA
   simp only [impl_At.j0] at H
   by_cases l1 : d2 = true
   ·subst l1
    have H1 : (some (0, 0, false)) = some (r1, r2, r3) := by rw [if_pos rfl] at H; exact H
    clear H
    have H := H1
    clear H1
    simp only [Option.some.injEq, Prod.mk.injEq] at H
    obtain ⟨rfl, rfl, rfl⟩ := H; have o2 := b3.out
    have o3 := a7.out; have l2 := bc0_ a6
    have l3 := bc1_ a6; have l4 := bf_ a6 0; have l5 := bf_ a6 1; go_wp2
    refine bodyPost_ret (results_ct rfl _ _ a8 48 #[.int .i64 0, .int .i64 0] (0, 0) _ rfl (by (with_reducible repeat (first | refine blk_drewN ?_ _ | refine blk_drew ?_ | refine blk_alloc ?_ _)); refine blk_put (cs := #[.int .i64 0, .int .i64 0]) ?_ 1 _ rfl; (with_reducible repeat (first | refine blk_drewN ?_ _ | refine blk_drew ?_ | refine blk_alloc ?_ _)); refine blk_put (cs := #[.int .i64 0, .int .i64 0]) ?_ 0 _ rfl; (with_reducible repeat (first | refine blk_drewN ?_ _ | refine blk_drew ?_ | refine blk_alloc ?_ _)); exact a6.out) Try.underlying48 rfl (by kernel_rfl)) rfl ?_
    exact ⟨re_, by repeat (first | (with_reducible first | exact HB.out | apply below_alloc | apply pw_below_drewN | apply below_drew1 | refine below_set ?_ g4.out) | exact HB.out)⟩
   ·replace l1 := Bool.eq_false_iff.mpr l1; subst l1
    have H1 : ((impl_piece.f kj2 l0_0 a1).bind fun a4 => (if 0 ≤ a4 then (if a4 < (l0_0.length : Int) then (if 0 ≤ (wrap64 (a4 + 1)) then (if (wrap64 (a4 + 1)) < (l0_0.length : Int) then (if a4 < (l0_1.length : Int) then (if (wrap64 (a4 + 1)) < (l0_1.length : Int) then ((impl_between.f (rd l0_0 a4) (rd l0_0 (wrap64 (a4 + 1))) (rd l0_1 a4) (rd l0_1 (wrap64 (a4 + 1))) a1).bind fun b2 => ((impl_frac.f kj2 b2.1 b2.2).bind fun b0 => (some (b0.1, b0.2, true)))) else (none)) else (none)) else (none)) else (none)) else (none)) else (none))) = some (r1, r2, r3) := by rw [if_neg (show ¬ (false = true) by decide)] at H; exact H
    clear H
    have H := H1
    clear H1; replace H := Option.bind_eq_some_iff.mp H; obtain ⟨a4, j4, H⟩ := H
    replace H : (if 0 ≤ a4 then (if a4 < (l0_0.length : Int) then (if 0 ≤ (wrap64 (a4 + 1)) then (if (wrap64 (a4 + 1)) < (l0_0.length : Int) then (if a4 < (l0_1.length : Int) then (if (wrap64 (a4 + 1)) < (l0_1.length : Int) then ((impl_between.f (rd l0_0 a4) (rd l0_0 (wrap64 (a4 + 1))) (rd l0_1 a4) (rd l0_1 (wrap64 (a4 + 1))) a1).bind fun b2 => ((impl_frac.f kj2 b2.1 b2.2).bind fun b0 => (some (b0.1, b0.2, true)))) else (none)) else (none)) else (none)) else (none)) else (none)) else (none)) = some (r1, r2, r3) := H
    have o4 := mk_ j4; clear j4; by_cases l6 : 0 ≤ a4
    ·rw [if_pos l6] at H; have o5 : decide (0 ≤ a4) = true := decide_eq_true l6; clear l6; by_cases l7 : a4 < (l0_0.length : Int)
     ·rw [if_pos l7] at H; have o6 : decide (a4 < (l0_0.length : Int)) = true := decide_eq_true l7; clear l7
      obtain ⟨a9, c4⟩ : ∃ j_ : Int, (wrap64 (a4 + 1)) = j_ := ⟨_, rfl⟩
      replace H : (if 0 ≤ (a9) then (if (a9) < (l0_0.length : Int) then (if a4 < (l0_1.length : Int) then (if (a9) < (l0_1.length : Int) then ((impl_between.f (rd l0_0 a4) (rd l0_0 (a9)) (rd l0_1 a4) (rd l0_1 (a9)) a1).bind fun b2 => ((impl_frac.f kj2 b2.1 b2.2).bind fun b0 => (some (b0.1, b0.2, true)))) else (none)) else (none)) else (none)) else (none)) = some (r1, r2, r3) := by first | (rw [c4] at H; exact H) | (simp only [c4] at H ⊢; exact H)
      (try rw [c4] at o4)
      have hji23w : (IntKind.i64.wrap (a4 + 1)) = a9 := (i64_w _).trans c4
      by_cases l8 : 0 ≤ (a9)
      ·rw [if_pos l8] at H; have o7 : decide (0 ≤ (a9)) = true := decide_eq_true l8; clear l8; by_cases l9 : (a9) < (l0_0.length : Int)
       ·rw [if_pos l9] at H; have o8 : decide ((a9) < (l0_0.length : Int)) = true := decide_eq_true l9; clear l9; by_cases m0 : a4 < (l0_1.length : Int)
        ·rw [if_pos m0] at H; have o9 : decide (a4 < (l0_1.length : Int)) = true := decide_eq_true m0; clear m0; by_cases m1 : (a9) < (l0_1.length : Int)
         ·rw [if_pos m1] at H; have p0 : decide ((a9) < (l0_1.length : Int)) = true := decide_eq_true m1; clear m1; replace H := Option.bind_eq_some_iff.mp H; obtain ⟨⟨g0, g1⟩, j5, H⟩ := H
          replace H : ((impl_frac.f kj2 g0 g1).bind fun b0 => (some (b0.1, b0.2, true))) = some (r1, r2, r3) := H
          have q4 := mk_ j5; clear j5; replace H := Option.bind_eq_some_iff.mp H; obtain ⟨⟨g2, g9⟩, j6, H⟩ := H
          replace H : (some (g2, g9, true)) = some (r1, r2, r3) := H
          have q5 := mk_ j6; clear j6
          simp only [Option.some.injEq, Prod.mk.injEq] at H
          obtain ⟨rfl, rfl, rfl⟩ := H; have p1 := a7.out
          have p2 := b3.out; have m2 := bc0_ a3
          have m3 := bc1_ a3; have m4 := bf_ a3 0; have m5 := bf_ a3 1
          try go_wp2_with (first | ((with_reducible refine gc_ 77 rfl ?_); refine gl_ (some 31) rfl Try.func77 #[.slice A0_0 l0_0.length c0_0, .int .i64 a1] ?_; (with_reducible refine (impl_piece.calls kj2 _ _ l0_0 a1 a4 _ ?c6 ?c9 o4.out).mono ?_); (case c6 => exact cw_ (Kd.C_below c2.out HB.out)); (case c9 => exact d6.out); rintro e w' ⟨rfl, ⟨nd, rfl⟩⟩; refine ⟨_, rfl, ?_⟩; (try (rw [drewN_self wc]; generalize hq_ : World.drewN wc _ = wc; have p3 := qB_ hq_ a3; have p4 := qB_ hq_ a6; have p5 := qH_ hq_ HB; clear a3 a6 HB hq_; have a3 := p3; have a6 := p4; have HB := p5; clear p3 p4 p5))))
          replace a3 := dB_ a3; replace a6 := dB_ a6; replace HB := dH_ HB
          have h0 : 0 ≤ (a4 : Int) := od_
          have h1 : a4 < (l0_0.length : Int) := od_
          obtain ⟨d3, n3, b6⟩ := Kd.at_int c2.out a4 h0 h1
          have hw121_0 := b6
          cases n3
          replace b6 := (HB.out.cell (World.block_lt_of_cell? w _ b6)).trans b6
          replace h0 := eq_true h0; replace h1 := eq_true h1
          have h2 : 0 ≤ ((a9) : Int) := od_
          have h3 : (a9) < (l0_0.length : Int) := od_
          obtain ⟨j7, n4, b7⟩ := Kd.at_int c2.out (a9) h2 h3
          have hw122_0 := b7
          obtain rfl : d3 = j7 := (by injection n4)
          replace b7 := (HB.out.cell (World.block_lt_of_cell? w _ b7)).trans b7
          replace h2 := eq_true h2; replace h3 := eq_true h3
          have h4 : 0 ≤ (a4 : Int) := od_
          have h5 : a4 < (l0_1.length : Int) := od_
          obtain ⟨d4, n5, b8⟩ := Kd.at_int d1.out a4 h4 h5
          have hw123_0 := b8
          cases n5
          replace b8 := (HB.out.cell (World.block_lt_of_cell? w _ b8)).trans b8
          replace h4 := eq_true h4; replace h5 := eq_true h5
          have h6 : 0 ≤ ((a9) : Int) := od_
          have h7 : (a9) < (l0_1.length : Int) := od_
          obtain ⟨j8, n6, b9⟩ := Kd.at_int d1.out (a9) h6 h7
          have hw124_0 := b9
          obtain rfl : d4 = j8 := (by injection n6)
          replace b9 := (HB.out.cell (World.block_lt_of_cell? w _ b9)).trans b9
          replace h6 := eq_true h6; replace h7 := eq_true h7
          refine start_ (n := 29) (S := fun w' => w'.cell? ⟨c3, 0, none⟩ = some (.slice (some d3) l0_0.length c0_0) ∧ w'.cell? ⟨c3, 1, none⟩ = some (.slice (some d4) l0_1.length c0_1) ∧ w'.cell? (d3.add (a4).toNat) = some (.int .i64 (rd l0_0 a4)) ∧ w'.cell? (d3.add ((a9)).toNat) = some (.int .i64 (rd l0_0 (a9))) ∧ w'.cell? (d4.add (a4).toNat) = some (.int .i64 (rd l0_1 a4)) ∧ w'.cell? (d4.add ((a9)).toNat) = some (.int .i64 (rd l0_1 (a9)))) (ds := []) (bs_ 29 0) (by kernel_rfl) rfl (by kernel_rfl) ⟨bc0_ a3, bc1_ a3, ((HB.out.cell (World.block_lt_of_cell? w _ hw121_0)).trans hw121_0), ((HB.out.cell (World.block_lt_of_cell? w _ hw122_0)).trans hw122_0), ((HB.out.cell (World.block_lt_of_cell? w _ hw123_0)).trans hw123_0), ((HB.out.cell (World.block_lt_of_cell? w _ hw124_0)).trans hw124_0)⟩ (fun hHeld => ?_); refine with_tabW impl_At.tab4 impl_At.bits4 (fun HT_ HW_ => ?_)
          generalize wc.drew = s3 at a3 a6 HB b6 b7 b8 b9 hHeld ⊢
          refine pu_ HT_ 0 32 (bs_ 29 1) ?_; refine pu_ HT_ 2 34 (bs_ 29 5) ?_; refine pu_ HT_ 5 37 (bs_ 29 37) ?_; refine pu_ HT_ 7 39 (bs_ 29 165) ?_; refine pu_ HT_ 8 40 (bs_ 29 421) ?_; refine pu_ HT_ 11 43 (bs_ 29 2469) ?_; refine pu_ HT_ 13 45 (bs_ 29 10661) ?_; refine pu_ HT_ 16 48 (bs_ 29 76197) ?_; refine pu_ HT_ 18 50 (bs_ 29 338341) ?_; refine pu_ HT_ 19 51 (bs_ 29 862629) ?_; refine pu_ HT_ 22 54 (bs_ 29 5056933) ?_; refine tk_ HT_ HW_ 1 33 (bs_ 29 5056935) hHeld ?_; refine pu_ HT_ 3 35 (bs_ 29 5056943) ?_; refine tk_ HT_ HW_ 4 36 (bs_ 29 5056959) hHeld ?_; refine tk_ HT_ HW_ 6 38 (bs_ 29 5057023) hHeld ?_; refine pu_ HT_ 9 41 (bs_ 29 5057535) ?_; refine tk_ HT_ HW_ 10 42 (bs_ 29 5058559) hHeld ?_; refine tk_ HT_ HW_ 12 44 (bs_ 29 5062655) hHeld ?_; refine pu_ HT_ 14 46 (bs_ 29 5079039) ?_; refine tk_ HT_ HW_ 15 47 (bs_ 29 5111807) hHeld ?_; refine tk_ HT_ HW_ 17 49 (bs_ 29 5242879) hHeld ?_; refine pu_ HT_ 20 52 (bs_ 29 6291455) ?_; refine tk_ HT_ HW_ 21 53 (bs_ 29 8388607) hHeld ?_
          refine one_ (i := 23) (N := some 55) (bs_ 29 16777215) rfl rfl (one_of HT_.out (by kernel_rfl)) (by decide) (fun K hK => ?_)
          refine goes_ Try.func79 (by kernel_rfl) rfl #[.int .i64 (rd l0_0 a4), .int .i64 (rd l0_0 (a9)), .int .i64 (rd l0_1 a4), .int .i64 (rd l0_1 (a9)), .int .i64 a1] (by rfl) rfl rfl (by (try simp only [List.map_toArray, List.map_cons, List.map_nil]); first | done | (simp only [c4]; rfl) | rfl | (simp only [List.length_drop, List.length_take]; rfl)) ?_
          with_reducible refine (impl_between.calls (rd l0_0 a4) (rd l0_0 (a9)) (rd l0_1 a4) (rd l0_1 (a9)) a1 g0 g1 _ q4.out).mono ?_
          rintro e w' ⟨rfl, ⟨nd, rfl⟩⟩
          refine ⟨_, rfl, ?_⟩
          refine hK.out _ _ ⟨bc0_ a3, bc1_ a3, ((HB.out.cell (World.block_lt_of_cell? w _ hw121_0)).trans hw121_0), ((HB.out.cell (World.block_lt_of_cell? w _ hw122_0)).trans hw122_0), ((HB.out.cell (World.block_lt_of_cell? w _ hw123_0)).trans hw123_0), ((HB.out.cell (World.block_lt_of_cell? w _ hw124_0)).trans hw124_0)⟩ (fun hHeld => ?_)
          clear hK K; refine nm_ 55 ?_; refine pu_ HT_ 24 56 (bs_ 29 33554431) ?_; refine pu_ HT_ 25 57 (bs_ 29 67108863) ?_
          refine one_ (i := 26) (N := some 58) (bs_ 29 134217727) rfl rfl (one_of HT_.out (by kernel_rfl)) (by decide) (fun K hK => ?_)
          refine gs_ Try.func78 #[.int .i64 g0, .int .i64 g1] ?_
          with_reducible refine (impl_frac.calls kj2 g0 g1 g2 g9 _ q5.out).mono ?_
          rintro e p6 ⟨rfl, hb⟩
          refine ⟨_, rfl, ?_⟩
          replace a3 := bk_ a3 hb; replace a6 := bk_ a6 hb; replace HB := hk_ HB hb
          (try clear hb); (try clear o1); (try clear hk); (try clear hi)
          refine hK.out _ _ ⟨bc0_ a3, bc1_ a3, ((HB.out.cell (World.block_lt_of_cell? w _ hw121_0)).trans hw121_0), ((HB.out.cell (World.block_lt_of_cell? w _ hw122_0)).trans hw122_0), ((HB.out.cell (World.block_lt_of_cell? w _ hw123_0)).trans hw123_0), ((HB.out.cell (World.block_lt_of_cell? w _ hw124_0)).trans hw124_0)⟩ (fun hHeld => ?_)
          clear hK K; refine nm_ 58 ?_
          refine one_ (i := 27) (N := none) (bs_ 29 268435455) rfl rfl (one_of HT_.out (by kernel_rfl)) (by decide) (fun K hK => ?_)
          have q6 : p6.cell? ⟨a8, 0, none⟩ = some (.int .i64 0) := bc0_ a6
          have p7 := blk_frozen a6.out 0
          have m6 := a7.out; have m7 := b3.out
          have q7 : p6.cell? ⟨a8, 1, none⟩ = some (.int .i64 0) := bc1_ a6
          have p8 := blk_frozen a6.out 1
          have m8 := a7.out; have m9 := b3.out
          refine skip_ (w1 := ?_) (by rfl) rfl ?_ ?_
          rotate_left
          ·go_simp
           rfl
          refine hK.out _ _ ⟨((cell_far (p := ⟨a8, _, none⟩) a7.out _).trans (((cell_far (p := ⟨a8, _, none⟩) a7.out _).trans (hHeld.1)))), ((cell_far (p := ⟨a8, _, none⟩) a7.out _).trans (((cell_far (p := ⟨a8, _, none⟩) a7.out _).trans (hHeld.2.1)))), ((cell_far (p := ⟨a8, _, none⟩) (by first | exact Nat.ne_of_lt (Nat.lt_of_lt_of_le (by have := World.block_lt_of_cell? _ _ hw121_0; first | rwa [add_block] at this | exact this) a5.out) | (rw [add_block]; exact Nat.ne_of_lt (Nat.lt_of_lt_of_le (by have := World.block_lt_of_cell? _ _ hw121_0; first | rwa [add_block] at this | exact this) a5.out)) | (show (Addr.add _ _).block ≠ _; rw [add_block]; exact Nat.ne_of_lt (Nat.lt_of_lt_of_le (by have := World.block_lt_of_cell? _ _ hw121_0; first | rwa [add_block] at this | exact this) a5.out)) | (dsimp only; exact Nat.ne_of_lt (Nat.lt_of_lt_of_le (by have := World.block_lt_of_cell? _ _ hw121_0; first | rwa [add_block] at this | exact this) a5.out))) _).trans (((cell_far (p := ⟨a8, _, none⟩) (by first | exact Nat.ne_of_lt (Nat.lt_of_lt_of_le (by have := World.block_lt_of_cell? _ _ hw121_0; first | rwa [add_block] at this | exact this) a5.out) | (rw [add_block]; exact Nat.ne_of_lt (Nat.lt_of_lt_of_le (by have := World.block_lt_of_cell? _ _ hw121_0; first | rwa [add_block] at this | exact this) a5.out)) | (show (Addr.add _ _).block ≠ _; rw [add_block]; exact Nat.ne_of_lt (Nat.lt_of_lt_of_le (by have := World.block_lt_of_cell? _ _ hw121_0; first | rwa [add_block] at this | exact this) a5.out)) | (dsimp only; exact Nat.ne_of_lt (Nat.lt_of_lt_of_le (by have := World.block_lt_of_cell? _ _ hw121_0; first | rwa [add_block] at this | exact this) a5.out))) _).trans (hHeld.2.2.1)))), ((cell_far (p := ⟨a8, _, none⟩) (by first | exact Nat.ne_of_lt (Nat.lt_of_lt_of_le (by have := World.block_lt_of_cell? _ _ hw122_0; first | rwa [add_block] at this | exact this) a5.out) | (rw [add_block]; exact Nat.ne_of_lt (Nat.lt_of_lt_of_le (by have := World.block_lt_of_cell? _ _ hw122_0; first | rwa [add_block] at this | exact this) a5.out)) | (show (Addr.add _ _).block ≠ _; rw [add_block]; exact Nat.ne_of_lt (Nat.lt_of_lt_of_le (by have := World.block_lt_of_cell? _ _ hw122_0; first | rwa [add_block] at this | exact this) a5.out)) | (dsimp only; exact Nat.ne_of_lt (Nat.lt_of_lt_of_le (by have := World.block_lt_of_cell? _ _ hw122_0; first | rwa [add_block] at this | exact this) a5.out))) _).trans (((cell_far (p := ⟨a8, _, none⟩) (by first | exact Nat.ne_of_lt (Nat.lt_of_lt_of_le (by have := World.block_lt_of_cell? _ _ hw122_0; first | rwa [add_block] at this | exact this) a5.out) | (rw [add_block]; exact Nat.ne_of_lt (Nat.lt_of_lt_of_le (by have := World.block_lt_of_cell? _ _ hw122_0; first | rwa [add_block] at this | exact this) a5.out)) | (show (Addr.add _ _).block ≠ _; rw [add_block]; exact Nat.ne_of_lt (Nat.lt_of_lt_of_le (by have := World.block_lt_of_cell? _ _ hw122_0; first | rwa [add_block] at this | exact this) a5.out)) | (dsimp only; exact Nat.ne_of_lt (Nat.lt_of_lt_of_le (by have := World.block_lt_of_cell? _ _ hw122_0; first | rwa [add_block] at this | exact this) a5.out))) _).trans (hHeld.2.2.2.1)))), ((cell_far (p := ⟨a8, _, none⟩) (by first | exact Nat.ne_of_lt (Nat.lt_of_lt_of_le (by have := World.block_lt_of_cell? _ _ hw123_0; first | rwa [add_block] at this | exact this) a5.out) | (rw [add_block]; exact Nat.ne_of_lt (Nat.lt_of_lt_of_le (by have := World.block_lt_of_cell? _ _ hw123_0; first | rwa [add_block] at this | exact this) a5.out)) | (show (Addr.add _ _).block ≠ _; rw [add_block]; exact Nat.ne_of_lt (Nat.lt_of_lt_of_le (by have := World.block_lt_of_cell? _ _ hw123_0; first | rwa [add_block] at this | exact this) a5.out)) | (dsimp only; exact Nat.ne_of_lt (Nat.lt_of_lt_of_le (by have := World.block_lt_of_cell? _ _ hw123_0; first | rwa [add_block] at this | exact this) a5.out))) _).trans (((cell_far (p := ⟨a8, _, none⟩) (by first | exact Nat.ne_of_lt (Nat.lt_of_lt_of_le (by have := World.block_lt_of_cell? _ _ hw123_0; first | rwa [add_block] at this | exact this) a5.out) | (rw [add_block]; exact Nat.ne_of_lt (Nat.lt_of_lt_of_le (by have := World.block_lt_of_cell? _ _ hw123_0; first | rwa [add_block] at this | exact this) a5.out)) | (show (Addr.add _ _).block ≠ _; rw [add_block]; exact Nat.ne_of_lt (Nat.lt_of_lt_of_le (by have := World.block_lt_of_cell? _ _ hw123_0; first | rwa [add_block] at this | exact this) a5.out)) | (dsimp only; exact Nat.ne_of_lt (Nat.lt_of_lt_of_le (by have := World.block_lt_of_cell? _ _ hw123_0; first | rwa [add_block] at this | exact this) a5.out))) _).trans (hHeld.2.2.2.2.1)))), ((cell_far (p := ⟨a8, _, none⟩) (by first | exact Nat.ne_of_lt (Nat.lt_of_lt_of_le (by have := World.block_lt_of_cell? _ _ hw124_0; first | rwa [add_block] at this | exact this) a5.out) | (rw [add_block]; exact Nat.ne_of_lt (Nat.lt_of_lt_of_le (by have := World.block_lt_of_cell? _ _ hw124_0; first | rwa [add_block] at this | exact this) a5.out)) | (show (Addr.add _ _).block ≠ _; rw [add_block]; exact Nat.ne_of_lt (Nat.lt_of_lt_of_le (by have := World.block_lt_of_cell? _ _ hw124_0; first | rwa [add_block] at this | exact this) a5.out)) | (dsimp only; exact Nat.ne_of_lt (Nat.lt_of_lt_of_le (by have := World.block_lt_of_cell? _ _ hw124_0; first | rwa [add_block] at this | exact this) a5.out))) _).trans (((cell_far (p := ⟨a8, _, none⟩) (by first | exact Nat.ne_of_lt (Nat.lt_of_lt_of_le (by have := World.block_lt_of_cell? _ _ hw124_0; first | rwa [add_block] at this | exact this) a5.out) | (rw [add_block]; exact Nat.ne_of_lt (Nat.lt_of_lt_of_le (by have := World.block_lt_of_cell? _ _ hw124_0; first | rwa [add_block] at this | exact this) a5.out)) | (show (Addr.add _ _).block ≠ _; rw [add_block]; exact Nat.ne_of_lt (Nat.lt_of_lt_of_le (by have := World.block_lt_of_cell? _ _ hw124_0; first | rwa [add_block] at this | exact this) a5.out)) | (dsimp only; exact Nat.ne_of_lt (Nat.lt_of_lt_of_le (by have := World.block_lt_of_cell? _ _ hw124_0; first | rwa [add_block] at this | exact this) a5.out))) _).trans (hHeld.2.2.2.2.2))))⟩ (fun hHeld => ?_)
          clear hK K; refine pu_ HT_ 28 5 (bs_ 29 536870911) ?_
          refine done_ (done_of HT_.out (by kernel_rfl)) ?_
          try go_wp2
          refine bodyPost_ret (results_ct rfl _ _ a8 48 #[.int .i64 g2, .int .i64 g9] (0, 0) _ rfl (by (with_reducible repeat (first | refine blk_drewN ?_ _ | refine blk_drew ?_ | refine blk_alloc ?_ _)); refine blk_put (cs := #[.int .i64 g2, .int .i64 0]) ?_ 1 _ rfl; (with_reducible repeat (first | refine blk_drewN ?_ _ | refine blk_drew ?_ | refine blk_alloc ?_ _)); refine blk_put (cs := #[.int .i64 0, .int .i64 0]) ?_ 0 _ rfl; (with_reducible repeat (first | refine blk_drewN ?_ _ | refine blk_drew ?_ | refine blk_alloc ?_ _)); exact a6.out) Try.underlying48 rfl (by kernel_rfl)) rfl ?_
          exact ⟨by first | rfl | (simp [errW_none, errW_some] <;> rfl) | (simp only [← c4]; first | rfl | (simp [errW_none, errW_some] <;> rfl)) | (simp [*, errW_none, errW_some] <;> rfl), by repeat (first | (with_reducible first | exact HB.out | apply below_alloc | apply pw_below_drewN | apply below_drew1 | refine below_set ?_ g4.out) | exact HB.out)⟩
         ·rw [if_neg m1] at H
          exact absurd H (by simp)
        ·rw [if_neg m0] at H
         exact absurd H (by simp)
       ·rw [if_neg l9] at H
        exact absurd H (by simp)
      ·rw [if_neg l8] at H
       exact absurd H (by simp)
     ·rw [if_neg l7] at H
      exact absurd H (by simp)
    ·rw [if_neg l6] at H
     exact absurd H (by simp)

end Go.Proofs.Ytnphbpkpjinddaa.QFnTables
-- squeezed
