/- Lean functions that tell what the Go functions used by one law answer, and for each a proof that the Go code comes to just these answers; no condition. Printed by this session's own program over the kit's printer. -/
import Derived.Test.YtfopdbdamkfglaaQFnExactFromRootsx0
import Derived.Test.YtfopdbdamkfglaaQFnExactFromRootsx1
namespace Go.Proofs.Ytfopdbdamkfglaa.QFnExactFromRoots
open Go.RowKit Go.Proofs.YtfopdbdamkfglaaW.PrintWords Go.Proofs.YtfopdbdamkfglaaW.PrintLast Go.Proofs.YtfopdbdamkfglaaW.PrintMore
attribute [local go_sem] max2_int min2_int max_two min_two max_three min_three max_four min_four   -- for this text's walks alone
attribute [local go_sem high] go_eql go_neq go_lss go_leq go_gtr go_geq go_store   -- for this text's walks alone
set_option linter.unusedVariables false
set_option linter.unusedSimpArgs false

/-! ### spec_FromRoots: function 37 -/
mutual
def spec_FromRoots.l0 : Nat → List (S34) → List (S34) → Int → Option ((List (S34)) × Bool)
  | 0, _, _, _ => none
  | k + 1, x0, x4, x5 => if x5 < (x0.length : Int) then (if 0 < (x4.length : Int) then (spec_FromRoots.l1 k x0 x4 x5 (([(⟨((rd_T34 x4 0).f0), ((rd_T34 x4 0).f1)⟩ : S34)] : List (S34))) 1) else (none)) else (some (x4, true))
def spec_FromRoots.l1 : Nat → List (S34) → List (S34) → Int → List (S34) → Int → Option ((List (S34)) × Bool)
  | 0, _, _, _, _, _ => none
  | k + 1, x0, x4, x5, x6, x7 => if x7 < (x4.length : Int) then (if 0 ≤ x7 then (if 0 ≤ (wrap64 (x7 - 1)) then (if (wrap64 (x7 - 1)) < (x4.length : Int) then (if 0 ≤ x5 then (if x5 < (x0.length : Int) then ((spec_CxTimes.f ((rd_T34 x4 (wrap64 (x7 - 1))).f0) ((rd_T34 x4 (wrap64 (x7 - 1))).f1) ((rd_T34 x0 x5).f0) ((rd_T34 x0 x5).f1)).bind fun bt147 => ((spec_CxLess.f ((rd_T34 x4 x7).f0) ((rd_T34 x4 x7).f1) bt147.1 bt147.2).bind fun bt149 => (if x6.length < 8796093022208 then (spec_FromRoots.l1 k x0 x4 x5 (x6 ++ [(⟨bt149.1, bt149.2⟩ : S34)]) (wrap64 (x7 + 1))) else (none)))) else (none)) else (none)) else (none)) else (none)) else (none)) else (if 0 ≤ (wrap64 ((x4.length : Int) - 1)) then (if (wrap64 ((x4.length : Int) - 1)) < (x4.length : Int) then (if 0 ≤ x5 then (if x5 < (x0.length : Int) then ((spec_CxTimes.f ((rd_T34 x4 (wrap64 ((x4.length : Int) - 1))).f0) ((rd_T34 x4 (wrap64 ((x4.length : Int) - 1))).f1) ((rd_T34 x0 x5).f0) ((rd_T34 x0 x5).f1)).bind fun bt156 => ((spec_CxLess.f (cn .f64 0) (cn .f64 0) bt156.1 bt156.2).bind fun bt158 => (if x6.length < 8796093022208 then (spec_FromRoots.l0 k x0 (x6 ++ [(⟨bt158.1, bt158.2⟩ : S34)]) (wrap64 (x5 + 1))) else (none)))) else (none)) else (none)) else (none)) else (none))
end
def spec_FromRoots.f (k : Nat) (l0 : List (S34)) : Option ((List (S34)) × Bool) := if (l0.length : Int) > 11 then (some ((([] : List (S34))), false)) else (spec_FromRoots.l0 k l0 (([(⟨(cn .f64 4607182418800017408), (cn .f64 0)⟩ : S34)] : List (S34))) 0)
theorem spec_FromRoots.mono_l : ∀ k, (∀ y0 y1 y2, LeO (spec_FromRoots.l0 k y0 y1 y2) (spec_FromRoots.l0 (k + 1) y0 y1 y2)) ∧ (∀ y0 y1 y2 y3 y4, LeO (spec_FromRoots.l1 k y0 y1 y2 y3 y4) (spec_FromRoots.l1 (k + 1) y0 y1 y2 y3 y4))
  | 0 => ⟨fun _ _ _ r h => by simp [spec_FromRoots.l0] at h, fun _ _ _ _ _ r h => by simp [spec_FromRoots.l1] at h⟩
  | k + 1 => by
    obtain ⟨ih0, ih1⟩ := spec_FromRoots.mono_l k
    refine ⟨?_, ?_⟩
    · intro y0 y1 y2
      unfold spec_FromRoots.l0
      repeat' first
      | (with_reducible exact ih0 _ _ _)
      | (with_reducible exact ih1 _ _ _ _ _)
      | (with_reducible exact LeO.refl _)
      | (with_reducible exact LeO.none _)
      | (with_reducible refine LeO.ite ?_ ?_)
      | (with_reducible refine LeO.bind ?_ (fun _ => ?_))
      | exact ih0 _ _ _
      | exact ih1 _ _ _ _ _
      | exact LeO.none _
      | refine LeO.ite ?_ ?_
      | refine LeO.bind ?_ (fun _ => ?_)
    · intro y0 y1 y2 y3 y4
      unfold spec_FromRoots.l1
      repeat' first
      | (with_reducible exact ih0 _ _ _)
      | (with_reducible exact ih1 _ _ _ _ _)
      | (with_reducible exact LeO.refl _)
      | (with_reducible exact LeO.none _)
      | (with_reducible refine LeO.ite ?_ ?_)
      | (with_reducible refine LeO.bind ?_ (fun _ => ?_))
      | exact ih0 _ _ _
      | exact ih1 _ _ _ _ _
      | exact LeO.none _
      | refine LeO.ite ?_ ?_
      | refine LeO.bind ?_ (fun _ => ?_)
theorem spec_FromRoots.mono : ∀ a0 k, LeO (spec_FromRoots.f k a0) (spec_FromRoots.f (k + 1) a0) := by
  intro a0 k
  obtain ⟨ih0, ih1⟩ := spec_FromRoots.mono_l k
  unfold spec_FromRoots.f
  repeat' first
      | (with_reducible exact ih0 _ _ _)
      | (with_reducible exact ih1 _ _ _ _ _)
      | (with_reducible exact LeO.refl _)
      | (with_reducible exact LeO.none _)
      | (with_reducible refine LeO.ite ?_ ?_)
      | (with_reducible refine LeO.bind ?_ (fun _ => ?_))
      | exact ih0 _ _ _
      | exact ih1 _ _ _ _ _
      | exact LeO.none _
      | refine LeO.ite ?_ ?_
      | refine LeO.bind ?_ (fun _ => ?_)
def spec_FromRoots.T11 : Bool × List (List Nat × List Nat) := (true, [([], []), ([], []), ([], []), ([1, 2], [1, 2]), ([3], [3]), ([], []), ([], []), ([6], [6]), ([5, 7], [5, 7]), ([8], [8]), ([], []), ([], []), ([10, 11], [10, 11]), ([12], [12]), ([9, 13], [9, 13]), ([4, 14, 14], [4, 14]), ([15], [15]), ([0, 16, 15], [0, 16]), ([17, 17, 0, 1, 2, 3, 4, 5, 6, 7, 8, 9, 10, 11, 12, 13, 14, 15, 16, 17], [0, 17])])
def spec_FromRoots.B11 : List Nat := [0, 0, 0, 6, 14, 0, 0, 64, 224, 480, 0, 0, 3072, 7168, 16352, 32766, 65534, 131071, 262143]
theorem spec_FromRoots.tab11 : rtab .any (opsOf Try.f37 11) = spec_FromRoots.T11 := by kernel_rfl
theorem spec_FromRoots.bits11 : waitsOk spec_FromRoots.T11.2 spec_FromRoots.B11 = true := by kernel_rfl
def spec_FromRoots.T12 : Bool × List (List Nat × List Nat) := (true, [([], []), ([], []), ([], []), ([], []), ([3], [3]), ([4], [4]), ([2, 5], [2, 5]), ([6], [6]), ([], []), ([], []), ([8, 9], [8, 9]), ([10], [10]), ([7, 11], [7, 11]), ([1, 12, 12], [1, 12]), ([13], [13]), ([0, 14, 13], [0, 14]), ([15, 15, 0, 1, 2, 3, 4, 5, 6, 7, 8, 9, 10, 11, 12, 13, 14, 15], [2, 3, 15])])
def spec_FromRoots.B12 : List Nat := [0, 0, 0, 0, 8, 24, 60, 124, 0, 0, 768, 1792, 4092, 8190, 16382, 32767, 65535]
theorem spec_FromRoots.tab12 : rtab .any (opsOf Try.f37 12) = spec_FromRoots.T12 := by kernel_rfl
theorem spec_FromRoots.bits12 : waitsOk spec_FromRoots.T12.2 spec_FromRoots.B12 = true := by kernel_rfl
set_option maxHeartbeats 8000000 in
set_option maxRecDepth 100000 in
theorem spec_FromRoots.calls (k : Nat) (A0 : Option Addr) (c0 : Nat) (l0 : List (S34)) (r1 : List (S34)) (r2 : Bool) (w : World) (hr0 : Kd.C k34 w A0 l0.length l0) (hc0 : l0.length ≤ c0) (h : spec_FromRoots.f k l0 = some (r1, r2)) :
    Calls Try.prog 37 #[.slice A0 l0.length c0] w fun e w' => ∃ v0_ : Value, e = .returned (.tuple #[v0_, .bool r2]) ∧ Kd.R k34 34 w' w.heap.size (fun _ => True) v0_ r1 ∧ Below w.heap.size w w' := by
  have hu34 := Try.underlying34
  have HR0 := Aside0.mk hr0
  have HC0 := Aside0.mk hc0
  clear hr0 hc0
  have HB := Aside0.mk (Below.refl w.heap.size w)
  have H : (if (l0.length : Int) > 11 then (some ((([] : List (S34))), false)) else (spec_FromRoots.l0 k l0 (([(⟨(cn .f64 4607182418800017408), (cn .f64 0)⟩ : S34)] : List (S34))) 0)) = some (r1, r2) := h
  clear h
  by_cases c2 : (l0.length : Int) > 11
  · rw [if_pos c2] at H
    have c2b0 : decide (11 < (l0.length : Int)) = true := decide_eq_true c2
    have c2b1 : decide (11 < l0.length) = true := decide_eq_true (by omega)
    clear c2
    obtain ⟨y134, hy134⟩ : ∃ y_ : List (S34), y_ = (([] : List (S34))) := ⟨_, rfl⟩
    replace H : (some (y134, false)) = some (r1, r2) := by first | (rw [hy134]; with_reducible exact H) | (have H2_ := (Option.bind_some _ _).symm.trans H; rw [hy134]; with_reducible exact H2_) | (have H2_ := (Option.bind_some _ _).symm.trans H; with_reducible exact H2_) | with_reducible exact H | (rw [hy134]; exact H) | exact H
    have Ny134 := Aside0.mk hy134
    clear hy134
    simp only [Option.some.injEq, Prod.mk.injEq] at H
    obtain ⟨rfl, rfl⟩ := H
    go_enter Try.func37, Try.ntmps37
    go_wp2_with (first | ((with_reducible refine gate_dst (N := 11) rfl ?_); refine Kd.R_lit k34 _ 34 ?hg (N := 11) ?hd (xs := ([] : List (S34))) (inner := []) (ok := fun _ => True) (okp := fun _ => True) ?hr ?hp (fun _ hk => hk) trivial (Below.refl _ _) (Nat.le_refl _) (by simp) ?_; (case hd => rfl); (case hg => rfl); (case hr => first | (go_simp; done) | (go_simp; rfl)); (case hp => exact (Reps.none _ _)); intro v135 w3 ho4 hb hg_ hnew_; clear hg_ hnew_; (first | rw [← Ny134.out] at ho4 | (simp only [Int.reduceToNat] at ho4; rw [← Ny134.out] at ho4)); have n0_ := Aside0.mk (Kd.R_lower ho4 (below_size (by repeat (first | (with_reducible first | exact HB.out | apply below_alloc | apply pw_below_drewN | apply below_drew1) | exact HB.out)))); have n1_ := Aside0.mk (below_step (by repeat (first | (with_reducible first | exact HB.out | apply below_alloc | apply pw_below_drewN | apply below_drew1) | exact HB.out)) hb); clear HB; have HO136 := n0_; have HB := n1_; clear n0_ n1_; clear hb ho4))
    go_ret2
    exact ⟨_, by first | rfl | (simp [errW_none, errW_some] <;> rfl) | (simp [*, errW_none, errW_some] <;> rfl), by (with_reducible repeat (first | apply Kd.R_alloc | apply Kd.R_drewN | apply Kd.R_drew)); exact HO136.out, by repeat (first | (with_reducible first | exact HB.out | apply below_alloc | apply pw_below_drewN | apply below_drew1) | exact HB.out)⟩
  · rw [if_neg c2] at H
    have c2b0 : decide (11 < (l0.length : Int)) = false := decide_eq_false c2
    have c2b1 : decide (11 < l0.length) = false := decide_eq_false (by omega)
    clear c2
    obtain ⟨y137, hy137⟩ : ∃ y_ : List (S34), y_ = (([(⟨(cn .f64 4607182418800017408), (cn .f64 0)⟩ : S34)] : List (S34))) := ⟨_, rfl⟩
    replace H : (spec_FromRoots.l0 k l0 y137 0) = some (r1, r2) := by first | (rw [hy137]; with_reducible exact H) | (have H2_ := (Option.bind_some _ _).symm.trans H; rw [hy137]; with_reducible exact H2_) | (have H2_ := (Option.bind_some _ _).symm.trans H; with_reducible exact H2_) | with_reducible exact H | (rw [hy137]; exact H) | exact H
    have Ny137 := Aside0.mk hy137
    clear hy137
    have H' := Aside0.mk H
    clear H
    go_enter Try.func37, Try.ntmps37
    go_wp2_with (first | ((with_reducible refine gate_dst (N := 13) rfl ?_); refine Kd.R_lit k34 _ 34 ?hg (N := 13) ?hd (xs := ([(⟨(cn .f64 4607182418800017408), (cn .f64 0)⟩ : S34)] : List (S34))) (inner := [.float .f64 4607182418800017408, .float .f64 0]) (ok := fun _ => True) (okp := fun _ => True) ?hr ?hp (fun _ hk => hk) trivial (Below.refl _ _) (Nat.le_refl _) (by simp) ?_; (case hd => rfl); (case hg => rfl); (case hr => first | (go_simp; done) | (go_simp; rfl)); (case hp => exact (Reps.c2 (show Kd.M k34 _ _ _ (⟨(cn .f64 4607182418800017408), (cn .f64 0)⟩ : S34) [.float .f64 4607182418800017408, .float .f64 0] from (k34_mkM _ _ _ (⟨(cn .f64 4607182418800017408), (cn .f64 0)⟩ : S34) rfl rfl)) (Reps.none _ _))); intro v138 w5 ho6 hb hg_ hnew_; clear hg_ hnew_; (first | rw [← Ny137.out] at ho6 | (simp only [Int.reduceToNat] at ho6; rw [← Ny137.out] at ho6)); have n0_ := Aside0.mk (Kd.R_lower ho6 (below_size (by repeat (first | (with_reducible first | exact HB.out | apply below_alloc | apply pw_below_drewN | apply below_drew1) | exact HB.out)))); have n1_ := Aside0.mk (below_step (by repeat (first | (with_reducible first | exact HB.out | apply below_alloc | apply pw_below_drewN | apply below_drew1) | exact HB.out)) hb); clear HB; have HO139 := n0_; have HB := n1_; clear n0_ n1_; clear hb ho6))
    go_loopg [4, 5] k (fun kq v4 v5 w' => ∃ (x4_1 : List (S34)) (x5_1 : Int), v5 = .int .i64 x5_1 ∧ Aside0 (spec_FromRoots.l0 kq l0 x4_1 x5_1 = some (r1, r2)) ∧ Aside0 (kq ≤ k) ∧ Aside0 (Kd.R k34 34 w' w.heap.size (fun _ => True) v4 x4_1) ∧ Aside0 (Below w.heap.size w w'))
    case atStart => exact ⟨(y137), (0), (by first | rfl | (simp; done) | (simp [*]; done)), H', ⟨Nat.le_refl _⟩, ⟨by (with_reducible repeat (first | apply Kd.R_alloc | apply Kd.R_drewN | apply Kd.R_drew)); exact HO139.out⟩, ⟨by repeat (first | (with_reducible first | exact HB.out | apply below_alloc | apply pw_below_drewN | apply below_drew1) | exact HB.out)⟩⟩
    case round =>
      clear H'
      try clear c2
      try clear c2b0
      try clear c2b1
      try clear p2
      try clear c3
      try clear c6
      obtain ⟨x4_1, x5_1, rfl, HA, HK1, HO_4, HB⟩ := hrel
      cases gk with
      | zero => exact absurd HA.out (by simp [spec_FromRoots.l0])
      | succ k1 =>
        have H := HA.out
        clear HA
        simp only [spec_FromRoots.l0] at H
        by_cases c7 : x5_1 < (l0.length : Int)
        · rw [if_pos c7] at H
          have c7b0 : decide (x5_1 < (l0.length : Int)) = true := decide_eq_true c7
          clear c7
          by_cases c8 : 0 < (x4_1.length : Int)
          · rw [if_pos c8] at H
            have c8b0 : decide (0 < (x4_1.length : Int)) = true := decide_eq_true c8
            have c8b1 : decide (0 < x4_1.length) = true := decide_eq_true (by omega)
            clear c8
            obtain ⟨fr140_0, hfr140_0⟩ : ∃ y_ : Fl, y_ = ((rd_T34 x4_1 0).f0) := ⟨_, rfl⟩
            replace H : (spec_FromRoots.l1 k1 l0 x4_1 x5_1 (([(⟨fr140_0, ((rd_T34 x4_1 0).f1)⟩ : S34)] : List (S34))) 1) = some (r1, r2) := by first | (rw [hfr140_0]; with_reducible exact H) | (have H2_ := (Option.bind_some _ _).symm.trans H; rw [hfr140_0]; with_reducible exact H2_) | (have H2_ := (Option.bind_some _ _).symm.trans H; with_reducible exact H2_) | with_reducible exact H | (rw [hfr140_0]; exact H) | exact H
            have Nfr140_0 := Aside0.mk hfr140_0
            clear hfr140_0
            obtain ⟨fr140_1, hfr140_1⟩ : ∃ y_ : Fl, y_ = ((rd_T34 x4_1 0).f1) := ⟨_, rfl⟩
            replace H : (spec_FromRoots.l1 k1 l0 x4_1 x5_1 (([(⟨fr140_0, fr140_1⟩ : S34)] : List (S34))) 1) = some (r1, r2) := by first | (rw [hfr140_1]; with_reducible exact H) | (have H2_ := (Option.bind_some _ _).symm.trans H; rw [hfr140_1]; with_reducible exact H2_) | (have H2_ := (Option.bind_some _ _).symm.trans H; with_reducible exact H2_) | with_reducible exact H | (rw [hfr140_1]; exact H) | exact H
            have Nfr140_1 := Aside0.mk hfr140_1
            clear hfr140_1
            obtain ⟨y141, hy141⟩ : ∃ y_ : List (S34), y_ = (([(⟨fr140_0, fr140_1⟩ : S34)] : List (S34))) := ⟨_, rfl⟩
            replace H : (spec_FromRoots.l1 k1 l0 x4_1 x5_1 y141 1) = some (r1, r2) := by first | (rw [hy141]; with_reducible exact H) | (have H2_ := (Option.bind_some _ _).symm.trans H; rw [hy141]; with_reducible exact H2_) | (have H2_ := (Option.bind_some _ _).symm.trans H; with_reducible exact H2_) | with_reducible exact H | (rw [hy141]; exact H) | exact H
            have Ny141 := Aside0.mk hy141
            clear hy141
            have H' := Aside0.mk H
            clear H
            obtain ⟨Ao9, co9, eo9⟩ := Kd.R_slice HO_4.out
            subst eo9
            have p140 : 0 ≤ (0 : Int) := (by omega)
            have q140 : 0 < (x4_1.length : Int) := of_decide_eq_true (by first | (with_reducible assumption) | assumption)
            obtain ⟨ad140, b_fr140_0, b_fr140_1, e140, hx140_0, hx140_1, hF140_0, hF140_1⟩ := at_T34 (Kd.R_reads' HO_4.out).2.2 0 p140 q140
            have hF_fr140_0 := hF140_0.trans Nfr140_0.out.symm
            clear hF140_0
            have hF_fr140_1 := hF140_1.trans Nfr140_1.out.symm
            clear hF140_1
            cases e140
            have qi140 : (0 < x4_1.length) = True := eq_true (by omega)
            (try rw [show ((0 : Int)).toNat = 0 from rfl] at hx140_0)
            (try rw [show 0 * 2 = 0 from rfl] at hx140_0)
            (try rw [Addr.add_zero'] at hx140_0)
            (try rw [show ((0 : Int)).toNat = 0 from rfl] at hx140_1)
            (try rw [show 0 * 2 = 0 from rfl] at hx140_1)
            (try rw [Addr.add_zero'] at hx140_1)
            replace p140 := eq_true p140
            replace q140 := eq_true q140
            go_wp2_with (first | ((with_reducible refine gate_dst (N := 23) rfl ?_); refine Kd.R_lit k34 _ 34 ?hg (N := 23) ?hd (xs := ([(⟨fr140_0, fr140_1⟩ : S34)] : List (S34))) (inner := [.float .f64 b_fr140_0, .float .f64 b_fr140_1]) (ok := fun _ => True) (okp := fun _ => True) ?hr ?hp (fun _ hk => hk) trivial (Below.refl _ _) (Nat.le_refl _) (by simp) ?_; (case hd => rfl); (case hg => rfl); (case hr => first | (go_simp; done) | (go_simp; rfl)); (case hp => exact (Reps.c2 (show Kd.M k34 _ _ _ (⟨fr140_0, fr140_1⟩ : S34) [.float .f64 b_fr140_0, .float .f64 b_fr140_1] from (k34_mkM _ _ _ (⟨fr140_0, fr140_1⟩ : S34) hF_fr140_0 hF_fr140_1)) (Reps.none _ _))); intro v142 w10 ho11 hb hg_ hnew_; clear hg_ hnew_; (first | rw [← Ny141.out] at ho11 | (simp only [Int.reduceToNat] at ho11; rw [← Ny141.out] at ho11)); have n0_ := Aside0.mk (Kd.R_elder' (by (with_reducible repeat (first | apply Kd.R_alloc | apply Kd.R_drewN | apply Kd.R_drew)); exact HO_4.out) (Kd.R_base ho11) hb); have n1_ := Aside0.mk (Kd.R_lower (Kd.R_new' ho11 (Kd.R_lt (by (with_reducible repeat (first | apply Kd.R_alloc | apply Kd.R_drewN | apply Kd.R_drew)); exact HO_4.out))) (below_size (by repeat (first | (with_reducible first | exact HB.out | apply below_alloc | apply pw_below_drewN | apply below_drew1) | exact HB.out)))); have n2_ := Aside0.mk (below_step (by repeat (first | (with_reducible first | exact HB.out | apply below_alloc | apply pw_below_drewN | apply below_drew1) | exact HB.out)) hb); clear HO_4; clear HB; have HO_4 := n0_; have HO143 := n1_; have HB := n2_; clear n0_ n1_ n2_; clear hb ho11))
            go_loopg [6, 7] k1 (fun kq v6 v7 w' => ∃ (x6_2 : List (S34)) (x7_2 : Int), v7 = .int .i64 x7_2 ∧ Aside0 (spec_FromRoots.l1 kq l0 x4_1 x5_1 x6_2 x7_2 = some (r1, r2)) ∧ Aside0 (kq ≤ k1) ∧ Aside0 (Kd.R k34 34 w' w.heap.size (fun k_ => some k_ ≠ (v6 : Value).ownBlock) (.slice (some ad140) x4_1.length co9) x4_1) ∧ Aside0 (Kd.R k34 34 w' w.heap.size (fun k_ => some k_ ≠ ((.slice (some ad140) x4_1.length co9) : Value).ownBlock) v6 x6_2) ∧ Aside0 (Below w.heap.size w w'))
            case atStart => exact ⟨(y141), (1), (by first | rfl | (simp; done) | (simp [*]; done)), H', ⟨Nat.le_refl _⟩, ⟨by (with_reducible repeat (first | apply Kd.R_alloc | apply Kd.R_drewN | apply Kd.R_drew)); exact Kd.R_mono HO_4.out (fun _ hk => hk.2)⟩, ⟨by (with_reducible repeat (first | apply Kd.R_alloc | apply Kd.R_drewN | apply Kd.R_drew)); exact Kd.R_mono HO143.out (fun _ hk => hk.2)⟩, ⟨by repeat (first | (with_reducible first | exact HB.out | apply below_alloc | apply pw_below_drewN | apply below_drew1) | exact HB.out)⟩⟩
            case round =>
              clear H'
              try clear p1
              try clear q1
              try clear hx1
              try clear qi1
              try clear c2
              try clear c2b0
              try clear c2b1
              try clear p2
              try clear c3
              try clear c6
              try clear c7
              try clear c7b0
              try clear c8
              try clear c8b0
              try clear c8b1
              try clear hx140_0
              try clear hx140_1
              try clear p140
              try clear p2
              try clear q140
              obtain ⟨x6_2, x7_2, rfl, HA, HK2, HO_4, HO_6, HB⟩ := hrel
              cases gk with
              | zero => exact absurd HA.out (by simp [spec_FromRoots.l1])
              | succ k2 =>
                have H := HA.out
                clear HA
                simp only [spec_FromRoots.l1] at H
                by_cases c12 : x7_2 < (x4_1.length : Int)
                · rw [if_pos c12] at H
                  have c12b0 : decide (x7_2 < (x4_1.length : Int)) = true := decide_eq_true c12
                  clear c12
                  by_cases c13 : 0 ≤ x7_2
                  · rw [if_pos c13] at H
                    have c13b0 : decide (0 ≤ x7_2) = true := decide_eq_true c13
                    clear c13
                    obtain ⟨fr144_0, hfr144_0⟩ : ∃ y_ : Fl, y_ = ((rd_T34 x4_1 x7_2).f0) := ⟨_, rfl⟩
                    replace H : (if 0 ≤ (wrap64 (x7_2 - 1)) then (if (wrap64 (x7_2 - 1)) < (x4_1.length : Int) then (if 0 ≤ x5_1 then (if x5_1 < (l0.length : Int) then ((spec_CxTimes.f ((rd_T34 x4_1 (wrap64 (x7_2 - 1))).f0) ((rd_T34 x4_1 (wrap64 (x7_2 - 1))).f1) ((rd_T34 l0 x5_1).f0) ((rd_T34 l0 x5_1).f1)).bind fun bt147 => ((spec_CxLess.f fr144_0 ((rd_T34 x4_1 x7_2).f1) bt147.1 bt147.2).bind fun bt149 => (if x6_2.length < 8796093022208 then (spec_FromRoots.l1 k2 l0 x4_1 x5_1 (x6_2 ++ [(⟨bt149.1, bt149.2⟩ : S34)]) (wrap64 (x7_2 + 1))) else (none)))) else (none)) else (none)) else (none)) else (none)) = some (r1, r2) := by first | (rw [hfr144_0]; with_reducible exact H) | (have H2_ := (Option.bind_some _ _).symm.trans H; rw [hfr144_0]; with_reducible exact H2_) | (have H2_ := (Option.bind_some _ _).symm.trans H; with_reducible exact H2_) | with_reducible exact H | (rw [hfr144_0]; exact H) | exact H
                    have Nfr144_0 := Aside0.mk hfr144_0
                    clear hfr144_0
                    obtain ⟨fr144_1, hfr144_1⟩ : ∃ y_ : Fl, y_ = ((rd_T34 x4_1 x7_2).f1) := ⟨_, rfl⟩
                    replace H : (if 0 ≤ (wrap64 (x7_2 - 1)) then (if (wrap64 (x7_2 - 1)) < (x4_1.length : Int) then (if 0 ≤ x5_1 then (if x5_1 < (l0.length : Int) then ((spec_CxTimes.f ((rd_T34 x4_1 (wrap64 (x7_2 - 1))).f0) ((rd_T34 x4_1 (wrap64 (x7_2 - 1))).f1) ((rd_T34 l0 x5_1).f0) ((rd_T34 l0 x5_1).f1)).bind fun bt147 => ((spec_CxLess.f fr144_0 fr144_1 bt147.1 bt147.2).bind fun bt149 => (if x6_2.length < 8796093022208 then (spec_FromRoots.l1 k2 l0 x4_1 x5_1 (x6_2 ++ [(⟨bt149.1, bt149.2⟩ : S34)]) (wrap64 (x7_2 + 1))) else (none)))) else (none)) else (none)) else (none)) else (none)) = some (r1, r2) := by first | (rw [hfr144_1]; with_reducible exact H) | (have H2_ := (Option.bind_some _ _).symm.trans H; rw [hfr144_1]; with_reducible exact H2_) | (have H2_ := (Option.bind_some _ _).symm.trans H; with_reducible exact H2_) | with_reducible exact H | (rw [hfr144_1]; exact H) | exact H
                    have Nfr144_1 := Aside0.mk hfr144_1
                    clear hfr144_1
                    obtain ⟨ji14, hji14⟩ : ∃ j_ : Int, (wrap64 (x7_2 - 1)) = j_ := ⟨_, rfl⟩
                    replace H : (if 0 ≤ (ji14) then (if (ji14) < (x4_1.length : Int) then (if 0 ≤ x5_1 then (if x5_1 < (l0.length : Int) then ((spec_CxTimes.f ((rd_T34 x4_1 (ji14)).f0) ((rd_T34 x4_1 (ji14)).f1) ((rd_T34 l0 x5_1).f0) ((rd_T34 l0 x5_1).f1)).bind fun bt147 => ((spec_CxLess.f fr144_0 fr144_1 bt147.1 bt147.2).bind fun bt149 => (if x6_2.length < 8796093022208 then (spec_FromRoots.l1 k2 l0 x4_1 x5_1 (x6_2 ++ [(⟨bt149.1, bt149.2⟩ : S34)]) (wrap64 (x7_2 + 1))) else (none)))) else (none)) else (none)) else (none)) else (none)) = some (r1, r2) := by first | (rw [hji14] at H; exact H) | (simp only [hji14] at H ⊢; exact H)
                    have hji14w : (IntKind.i64.wrap (x7_2 - 1)) = ji14 := (i64_w _).trans hji14
                    by_cases c15 : 0 ≤ (ji14)
                    · rw [if_pos c15] at H
                      have c15b0 : decide (0 ≤ (ji14)) = true := decide_eq_true c15
                      clear c15
                      by_cases c16 : (ji14) < (x4_1.length : Int)
                      · rw [if_pos c16] at H
                        have c16b0 : decide ((ji14) < (x4_1.length : Int)) = true := decide_eq_true c16
                        clear c16
                        obtain ⟨fr145_0, hfr145_0⟩ : ∃ y_ : Fl, y_ = ((rd_T34 x4_1 (ji14)).f0) := ⟨_, rfl⟩
                        replace H : (if 0 ≤ x5_1 then (if x5_1 < (l0.length : Int) then ((spec_CxTimes.f fr145_0 ((rd_T34 x4_1 (ji14)).f1) ((rd_T34 l0 x5_1).f0) ((rd_T34 l0 x5_1).f1)).bind fun bt147 => ((spec_CxLess.f fr144_0 fr144_1 bt147.1 bt147.2).bind fun bt149 => (if x6_2.length < 8796093022208 then (spec_FromRoots.l1 k2 l0 x4_1 x5_1 (x6_2 ++ [(⟨bt149.1, bt149.2⟩ : S34)]) (wrap64 (x7_2 + 1))) else (none)))) else (none)) else (none)) = some (r1, r2) := by first | (rw [hfr145_0]; with_reducible exact H) | (have H2_ := (Option.bind_some _ _).symm.trans H; rw [hfr145_0]; with_reducible exact H2_) | (have H2_ := (Option.bind_some _ _).symm.trans H; with_reducible exact H2_) | with_reducible exact H | (rw [hfr145_0]; exact H) | exact H
                        have Nfr145_0 := Aside0.mk hfr145_0
                        clear hfr145_0
                        obtain ⟨fr145_1, hfr145_1⟩ : ∃ y_ : Fl, y_ = ((rd_T34 x4_1 (ji14)).f1) := ⟨_, rfl⟩
                        replace H : (if 0 ≤ x5_1 then (if x5_1 < (l0.length : Int) then ((spec_CxTimes.f fr145_0 fr145_1 ((rd_T34 l0 x5_1).f0) ((rd_T34 l0 x5_1).f1)).bind fun bt147 => ((spec_CxLess.f fr144_0 fr144_1 bt147.1 bt147.2).bind fun bt149 => (if x6_2.length < 8796093022208 then (spec_FromRoots.l1 k2 l0 x4_1 x5_1 (x6_2 ++ [(⟨bt149.1, bt149.2⟩ : S34)]) (wrap64 (x7_2 + 1))) else (none)))) else (none)) else (none)) = some (r1, r2) := by first | (rw [hfr145_1]; with_reducible exact H) | (have H2_ := (Option.bind_some _ _).symm.trans H; rw [hfr145_1]; with_reducible exact H2_) | (have H2_ := (Option.bind_some _ _).symm.trans H; with_reducible exact H2_) | with_reducible exact H | (rw [hfr145_1]; exact H) | exact H
                        have Nfr145_1 := Aside0.mk hfr145_1
                        clear hfr145_1
                        by_cases c17 : 0 ≤ x5_1
                        · rw [if_pos c17] at H
                          have c17b0 : decide (0 ≤ x5_1) = true := decide_eq_true c17
                          clear c17
                          by_cases c18 : x5_1 < (l0.length : Int)
                          · rw [if_pos c18] at H
                            have c18b0 : decide (x5_1 < (l0.length : Int)) = true := decide_eq_true c18
                            clear c18
                            obtain ⟨fr146_0, hfr146_0⟩ : ∃ y_ : Fl, y_ = ((rd_T34 l0 x5_1).f0) := ⟨_, rfl⟩
                            replace H : ((spec_CxTimes.f fr145_0 fr145_1 fr146_0 ((rd_T34 l0 x5_1).f1)).bind fun bt147 => ((spec_CxLess.f fr144_0 fr144_1 bt147.1 bt147.2).bind fun bt149 => (if x6_2.length < 8796093022208 then (spec_FromRoots.l1 k2 l0 x4_1 x5_1 (x6_2 ++ [(⟨bt149.1, bt149.2⟩ : S34)]) (wrap64 (x7_2 + 1))) else (none)))) = some (r1, r2) := by first | (rw [hfr146_0]; with_reducible exact H) | (have H2_ := (Option.bind_some _ _).symm.trans H; rw [hfr146_0]; with_reducible exact H2_) | (have H2_ := (Option.bind_some _ _).symm.trans H; with_reducible exact H2_) | with_reducible exact H | (rw [hfr146_0]; exact H) | exact H
                            have Nfr146_0 := Aside0.mk hfr146_0
                            clear hfr146_0
                            obtain ⟨fr146_1, hfr146_1⟩ : ∃ y_ : Fl, y_ = ((rd_T34 l0 x5_1).f1) := ⟨_, rfl⟩
                            replace H : ((spec_CxTimes.f fr145_0 fr145_1 fr146_0 fr146_1).bind fun bt147 => ((spec_CxLess.f fr144_0 fr144_1 bt147.1 bt147.2).bind fun bt149 => (if x6_2.length < 8796093022208 then (spec_FromRoots.l1 k2 l0 x4_1 x5_1 (x6_2 ++ [(⟨bt149.1, bt149.2⟩ : S34)]) (wrap64 (x7_2 + 1))) else (none)))) = some (r1, r2) := by first | (rw [hfr146_1]; with_reducible exact H) | (have H2_ := (Option.bind_some _ _).symm.trans H; rw [hfr146_1]; with_reducible exact H2_) | (have H2_ := (Option.bind_some _ _).symm.trans H; with_reducible exact H2_) | with_reducible exact H | (rw [hfr146_1]; exact H) | exact H
                            have Nfr146_1 := Aside0.mk hfr146_1
                            clear hfr146_1
                            replace H := Option.bind_eq_some_iff.mp H
                            obtain ⟨⟨t147, t148⟩, A190, H⟩ := H
                            replace H : ((spec_CxLess.f fr144_0 fr144_1 t147 t148).bind fun bt149 => (if x6_2.length < 8796093022208 then (spec_FromRoots.l1 k2 l0 x4_1 x5_1 (x6_2 ++ [(⟨bt149.1, bt149.2⟩ : S34)]) (wrap64 (x7_2 + 1))) else (none))) = some (r1, r2) := H
                            have A19 := Aside0.mk A190
                            clear A190
                            replace H := Option.bind_eq_some_iff.mp H
                            obtain ⟨⟨t149, t150⟩, A200, H⟩ := H
                            replace H : (if x6_2.length < 8796093022208 then (spec_FromRoots.l1 k2 l0 x4_1 x5_1 (x6_2 ++ [(⟨t149, t150⟩ : S34)]) (wrap64 (x7_2 + 1))) else (none)) = some (r1, r2) := H
                            have A20 := Aside0.mk A200
                            clear A200
                            by_cases c21 : x6_2.length < 8796093022208
                            · rw [if_pos c21] at H
                              have LMc21 := Aside0.mk c21
                              clear c21
                              obtain ⟨y151, hy151⟩ : ∃ y_ : List (S34), y_ = (x6_2 ++ [(⟨t149, t150⟩ : S34)]) := ⟨_, rfl⟩
                              replace H : (spec_FromRoots.l1 k2 l0 x4_1 x5_1 y151 (wrap64 (x7_2 + 1))) = some (r1, r2) := by first | (rw [hy151]; with_reducible exact H) | (have H2_ := (Option.bind_some _ _).symm.trans H; rw [hy151]; with_reducible exact H2_) | (have H2_ := (Option.bind_some _ _).symm.trans H; with_reducible exact H2_) | with_reducible exact H | (rw [hy151]; exact H) | exact H
                              have Ny151 := Aside0.mk hy151
                              clear hy151
                              have H' := Aside0.mk H
                              clear H
                              try go_wp2
                              have n0_ := Aside0.mk (Kd.R_drew HO_4.out)
                              have n1_ := Aside0.mk (Kd.R_drew HO_6.out)
                              have n2_ := Aside0.mk (below_drew1 HB.out)
                              clear HO_4
                              clear HO_6
                              clear HB
                              have HO_4 := n0_
                              have HO_6 := n1_
                              have HB := n2_
                              clear n0_ n1_ n2_
                              have p144 : 0 ≤ (x7_2 : Int) := of_decide_eq_true (by first | (with_reducible assumption) | assumption)
                              have q144 : x7_2 < (x4_1.length : Int) := of_decide_eq_true (by first | (with_reducible assumption) | assumption)
                              obtain ⟨ad144, b_fr144_0, b_fr144_1, e144, hx144_0, hx144_1, hF144_0, hF144_1⟩ := at_T34 (Kd.R_reads' HO_4.out).2.2 x7_2 p144 q144
                              have hF_fr144_0 := hF144_0.trans Nfr144_0.out.symm
                              clear hF144_0
                              have hF_fr144_1 := hF144_1.trans Nfr144_1.out.symm
                              clear hF144_1
                              obtain rfl : ad140 = ad144 := (by injection e144)
                              replace p144 := eq_true p144
                              replace q144 := eq_true q144
                              have p145 : 0 ≤ ((ji14) : Int) := of_decide_eq_true (by first | (with_reducible assumption) | assumption)
                              have q145 : (ji14) < (x4_1.length : Int) := of_decide_eq_true (by first | (with_reducible assumption) | assumption)
                              obtain ⟨ad145, b_fr145_0, b_fr145_1, e145, hx145_0, hx145_1, hF145_0, hF145_1⟩ := at_T34 (Kd.R_reads' HO_4.out).2.2 (ji14) p145 q145
                              have hF_fr145_0 := hF145_0.trans Nfr145_0.out.symm
                              clear hF145_0
                              have hF_fr145_1 := hF145_1.trans Nfr145_1.out.symm
                              clear hF145_1
                              obtain rfl : ad140 = ad145 := (by injection e145)
                              replace p145 := eq_true p145
                              replace q145 := eq_true q145
                              have p146 : 0 ≤ (x5_1 : Int) := of_decide_eq_true (by first | (with_reducible assumption) | assumption)
                              have q146 : x5_1 < (l0.length : Int) := of_decide_eq_true (by first | (with_reducible assumption) | assumption)
                              obtain ⟨ad146, b_fr146_0, b_fr146_1, e146, hx146_0, hx146_1, hF146_0, hF146_1⟩ := at_T34 HR0.out x5_1 p146 q146
                              have hw146_1 := hx146_1
                              have hw146_0 := hx146_0
                              have hF_fr146_0 := hF146_0.trans Nfr146_0.out.symm
                              clear hF146_0
                              have hF_fr146_1 := hF146_1.trans Nfr146_1.out.symm
                              clear hF146_1
                              cases e146
                              replace hx146_0 := (HB.out.cell (World.block_lt_of_cell? w _ hx146_0)).trans hx146_0
                              replace hx146_1 := (HB.out.cell (World.block_lt_of_cell? w _ hx146_1)).trans hx146_1
                              replace p146 := eq_true p146
                              replace q146 := eq_true q146
                              refine start_ (n := 19) (S := fun w' => w'.cell? (ad140.add ((x7_2).toNat * 2)) = some (.float .f64 b_fr144_0) ∧ w'.cell? ⟨(ad140.add ((x7_2).toNat * 2)).block, (ad140.add ((x7_2).toNat * 2)).off + 1, none⟩ = some (.float .f64 b_fr144_1) ∧ w'.cell? (ad140.add (((ji14)).toNat * 2)) = some (.float .f64 b_fr145_0) ∧ w'.cell? ⟨(ad140.add (((ji14)).toNat * 2)).block, (ad140.add (((ji14)).toNat * 2)).off + 1, none⟩ = some (.float .f64 b_fr145_1) ∧ w'.cell? (ad146.add ((x5_1).toNat * 2)) = some (.float .f64 b_fr146_0) ∧ w'.cell? ⟨(ad146.add ((x5_1).toNat * 2)).block, (ad146.add ((x5_1).toNat * 2)).off + 1, none⟩ = some (.float .f64 b_fr146_1)) (ds := [16, 17]) #[false, false, false, false, false, false, false, false, false, false, false, false, false, false, false, false, false, false, false] (by kernel_rfl) rfl rfl ⟨hx144_0, hx144_1, hx145_0, hx145_1, ((HB.out.cell (World.block_lt_of_cell? w _ hw146_0)).trans hw146_0), ((HB.out.cell (World.block_lt_of_cell? w _ hw146_1)).trans hw146_1)⟩ (fun hHeld => ?_); refine with_tabW spec_FromRoots.tab11 spec_FromRoots.bits11 (fun HT_ HW_ => ?_)
                              generalize wr.drew = w22 at HO_4 HO_6 HB hx144_0 hx144_1 hx145_0 hx145_1 hx146_0 hx146_1 hHeld ⊢
                              refine pure_ (i := 0) (N := some 30) (v := ?_) (a' := ?_) #[true, false, false, false, false, false, false, false, false, false, false, false, false, false, false, false, false, false, false] rfl rfl (any_of HT_.out (by kernel_rfl)) (fun _ _ _ h => h) (Or.inl ⟨by rfl, ?_⟩) ?_ ?_
                              rotate_left
                              · intro w'
                                go_simp
                                with_reducible rfl
                              rotate_left
                              · simp only [Act.put, List.setIfInBounds_toArray, List.set_cons_zero, List.set_cons_succ, i64_w, i32_w]
                                rfl
                              refine pure_ (i := 1) (N := some 31) (v := ?_) (a' := ?_) #[true, true, false, false, false, false, false, false, false, false, false, false, false, false, false, false, false, false, false] rfl rfl (any_of HT_.out (by kernel_rfl)) (fun _ _ _ h => h) (Or.inl ⟨by rfl, ?_⟩) ?_ ?_
                              rotate_left
                              · intro w'
                                go_simp
                                with_reducible rfl
                              rotate_left
                              · simp only [Act.put, List.setIfInBounds_toArray, List.set_cons_zero, List.set_cons_succ, i64_w, i32_w]
                                rfl
                              refine pure_ (i := 2) (N := some 32) (v := ?_) (a' := ?_) #[true, true, true, false, false, false, false, false, false, false, false, false, false, false, false, false, false, false, false] rfl rfl (any_of HT_.out (by kernel_rfl)) (fun _ _ _ h => h) (Or.inl ⟨by rfl, ?_⟩) ?_ ?_
                              rotate_left
                              · intro w'
                                go_simp
                                with_reducible rfl
                              rotate_left
                              · simp only [Act.put, List.setIfInBounds_toArray, List.set_cons_zero, List.set_cons_succ, i64_w, i32_w]
                                rfl
                              refine pure_ (i := 3) (N := some 33) (v := ?_) (a' := ?_) #[true, true, true, true, false, false, false, false, false, false, false, false, false, false, false, false, false, false, false] rfl rfl (any_of HT_.out (by kernel_rfl)) (fun _ _ _ h => h) (Or.inl ⟨by rfl, ?_⟩) ?_ ?_
                              rotate_left
                              · intro w'
                                go_simp
                                with_reducible rfl
                              rotate_left
                              · simp only [Act.put, List.setIfInBounds_toArray, List.set_cons_zero, List.set_cons_succ, i64_w, i32_w]
                                rfl
                              refine pure_ (i := 5) (N := some 35) (v := ?_) (a' := ?_) #[true, true, true, true, false, true, false, false, false, false, false, false, false, false, false, false, false, false, false] rfl rfl (any_of HT_.out (by kernel_rfl)) (fun _ _ _ h => h) (Or.inl ⟨by rfl, ?_⟩) ?_ ?_
                              rotate_left
                              · intro w'
                                go_simp
                                with_reducible rfl
                              rotate_left
                              · simp only [Act.put, List.setIfInBounds_toArray, List.set_cons_zero, List.set_cons_succ, i64_w, i32_w]
                                rfl
                              refine pure_ (i := 6) (N := some 36) (v := ?_) (a' := ?_) #[true, true, true, true, false, true, true, false, false, false, false, false, false, false, false, false, false, false, false] rfl rfl (any_of HT_.out (by kernel_rfl)) (fun _ _ _ h => h) (Or.inl ⟨by rfl, ?_⟩) ?_ ?_
                              rotate_left
                              · intro w'
                                go_simp
                                with_reducible rfl
                              rotate_left
                              · simp only [Act.put, List.setIfInBounds_toArray, List.set_cons_zero, List.set_cons_succ, i64_w, i32_w]
                                rfl
                              refine pure_ (i := 7) (N := some 37) (v := ?_) (a' := ?_) #[true, true, true, true, false, true, true, true, false, false, false, false, false, false, false, false, false, false, false] rfl rfl (any_of HT_.out (by kernel_rfl)) (fun _ _ _ h => h) (Or.inl ⟨by rfl, ?_⟩) ?_ ?_
                              rotate_left
                              · intro w'
                                go_simp
                                with_reducible rfl
                              rotate_left
                              · simp only [Act.put, List.setIfInBounds_toArray, List.set_cons_zero, List.set_cons_succ, i64_w, i32_w]
                                rfl
                              refine pure_ (i := 8) (N := some 38) (v := ?_) (a' := ?_) #[true, true, true, true, false, true, true, true, true, false, false, false, false, false, false, false, false, false, false] rfl rfl (any_of HT_.out (by kernel_rfl)) (fun _ _ _ h => h) (Or.inl ⟨by rfl, ?_⟩) ?_ ?_
                              rotate_left
                              · intro w'
                                go_simp
                                with_reducible rfl
                              rotate_left
                              · simp only [Act.put, List.setIfInBounds_toArray, List.set_cons_zero, List.set_cons_succ, i64_w, i32_w]
                                rfl
                              refine pure_ (i := 10) (N := some 40) (v := ?_) (a' := ?_) #[true, true, true, true, false, true, true, true, true, false, true, false, false, false, false, false, false, false, false] rfl rfl (any_of HT_.out (by kernel_rfl)) (fun _ _ _ h => h) (Or.inl ⟨by rfl, ?_⟩) ?_ ?_
                              rotate_left
                              · intro w'
                                go_simp
                                with_reducible rfl
                              rotate_left
                              · simp only [Act.put, List.setIfInBounds_toArray, List.set_cons_zero, List.set_cons_succ, i64_w, i32_w]
                                rfl
                              refine pure_ (i := 11) (N := some 41) (v := ?_) (a' := ?_) #[true, true, true, true, false, true, true, true, true, false, true, true, false, false, false, false, false, false, false] rfl rfl (any_of HT_.out (by kernel_rfl)) (fun _ _ _ h => h) (Or.inl ⟨by rfl, ?_⟩) ?_ ?_
                              rotate_left
                              · intro w'
                                go_simp
                                with_reducible rfl
                              rotate_left
                              · simp only [Act.put, List.setIfInBounds_toArray, List.set_cons_zero, List.set_cons_succ, i64_w, i32_w]
                                rfl
                              refine pure_ (i := 12) (N := some 42) (v := ?_) (a' := ?_) #[true, true, true, true, false, true, true, true, true, false, true, true, true, false, false, false, false, false, false] rfl rfl (any_of HT_.out (by kernel_rfl)) (fun _ _ _ h => h) (Or.inl ⟨by rfl, ?_⟩) ?_ ?_
                              rotate_left
                              · intro w'
                                go_simp
                                with_reducible rfl
                              rotate_left
                              · simp only [Act.put, List.setIfInBounds_toArray, List.set_cons_zero, List.set_cons_succ, i64_w, i32_w]
                                rfl
                              refine take_ (i := 4) (N := some 34) (v := ?_) (a' := ?_) #[true, true, true, true, true, true, true, true, true, false, true, true, true, false, false, false, false, false, false] rfl rfl (take_ofW HT_.out HW_.out (by kernel_rfl)) (fun _ _ _ h => h) (Or.inl ⟨by rfl, ?_⟩) hHeld ?_ ?_
                              rotate_left
                              · rintro w' ⟨s0, s1, s2, s3, s4, s5⟩
                                go_simp
                                with_reducible rfl
                              rotate_left
                              · simp only [Act.put, List.setIfInBounds_toArray, List.set_cons_zero, List.set_cons_succ, i64_w, i32_w]
                                rfl
                              refine take_ (i := 9) (N := some 39) (v := ?_) (a' := ?_) #[true, true, true, true, true, true, true, true, true, true, true, true, true, false, false, false, false, false, false] rfl rfl (take_ofW HT_.out HW_.out (by kernel_rfl)) (fun _ _ _ h => h) (Or.inl ⟨by rfl, ?_⟩) hHeld ?_ ?_
                              rotate_left
                              · rintro w' ⟨s0, s1, s2, s3, s4, s5⟩
                                go_simp
                                with_reducible rfl
                              rotate_left
                              · simp only [Act.put, List.setIfInBounds_toArray, List.set_cons_zero, List.set_cons_succ, i64_w, i32_w]
                                rfl
                              refine take_ (i := 13) (N := some 43) (v := ?_) (a' := ?_) #[true, true, true, true, true, true, true, true, true, true, true, true, true, true, false, false, false, false, false] rfl rfl (take_ofW HT_.out HW_.out (by kernel_rfl)) (fun _ _ _ h => h) (Or.inl ⟨by rfl, ?_⟩) hHeld ?_ ?_
                              rotate_left
                              · rintro w' ⟨s0, s1, s2, s3, s4, s5⟩
                                go_simp
                                with_reducible rfl
                              rotate_left
                              · simp only [Act.put, List.setIfInBounds_toArray, List.set_cons_zero, List.set_cons_succ, i64_w, i32_w]
                                rfl
                              refine one_ (i := 14) (N := some 44) #[true, true, true, true, true, true, true, true, true, true, true, true, true, true, true, false, false, false, false] rfl rfl (one_of HT_.out (by kernel_rfl)) (by decide) (fun K hK => ?_)
                              refine goes_ Try.func69 (by kernel_rfl) rfl #[.agg #[.float .f64 b_fr145_0, .float .f64 b_fr145_1], .agg #[.float .f64 b_fr146_0, .float .f64 b_fr146_1]] (by rfl) rfl rfl (by (try simp only [List.map_toArray, List.map_cons, List.map_nil]); first | done | rfl | (simp only [List.length_drop, List.length_take]; rfl)) ?_
                              with_reducible refine (spec_CxTimes.calls b_fr145_0 fr145_0 b_fr145_1 fr145_1 b_fr146_0 fr146_0 b_fr146_1 fr146_1 t147 t148 _ ?side1 ?side2 ?side3 ?side4 A19.out).mono ?_
                              (case side1 => exact hF_fr145_0)
                              (case side2 => exact hF_fr145_1)
                              (case side3 => exact hF_fr146_0)
                              (case side4 => exact hF_fr146_1)
                              rintro e w23 ⟨b_t147, b_t148, rfl, hF_t147, hF_t148, hb⟩
                              have HS0_ := (hb.cell (World.block_lt_of_cell? _ _ (hHeld.1))).trans (hHeld.1)
                              have HS1_ := (hb.cell (World.block_lt_of_cell? _ _ (hHeld.2.1))).trans (hHeld.2.1)
                              have HS2_ := (hb.cell (World.block_lt_of_cell? _ _ (hHeld.2.2.1))).trans (hHeld.2.2.1)
                              have HS3_ := (hb.cell (World.block_lt_of_cell? _ _ (hHeld.2.2.2.1))).trans (hHeld.2.2.2.1)
                              refine ⟨_, rfl, ?_⟩
                              have n0_ := Aside0.mk (Kd.R_below (by (with_reducible repeat (first | apply Kd.R_alloc | apply Kd.R_drewN | apply Kd.R_drew)); exact HO_4.out) hb)
                              have n1_ := Aside0.mk (Kd.R_below (by (with_reducible repeat (first | apply Kd.R_alloc | apply Kd.R_drewN | apply Kd.R_drew)); exact HO_6.out) hb)
                              have n2_ := Aside0.mk (below_step (by repeat (first | (with_reducible first | exact HB.out | apply below_alloc | apply pw_below_drewN | apply below_drew1) | exact HB.out)) hb)
                              clear HO_4
                              clear HO_6
                              clear HB
                              have HO_4 := n0_
                              have HO_6 := n1_
                              have HB := n2_
                              clear n0_ n1_ n2_
                              (try clear hb)
                              (try clear hb2)
                              (try clear hk)
                              (try clear hi)
                              refine hK.out _ _ ⟨HS0_, HS1_, HS2_, HS3_, ((HB.out.cell (World.block_lt_of_cell? w _ hw146_0)).trans hw146_0), ((HB.out.cell (World.block_lt_of_cell? w _ hw146_1)).trans hw146_1)⟩ (fun hHeld => ?_)
                              clear hK K
                              refine norm_ (a' := ?_) ?_ ?_
                              rotate_left
                              · show Act.put _ (some 44) _ = _
                                simp only [Act.put, List.setIfInBounds_toArray, List.set_cons_zero, List.set_cons_succ, i64_w, i32_w]
                                rfl
                              refine one_ (i := 15) (N := some 45) #[true, true, true, true, true, true, true, true, true, true, true, true, true, true, true, true, false, false, false] rfl rfl (one_of HT_.out (by kernel_rfl)) (by decide) (fun K hK => ?_)
                              refine goes_ Try.func78 (by kernel_rfl) rfl #[.agg #[.float .f64 b_fr144_0, .float .f64 b_fr144_1], .agg #[.float .f64 b_t147, .float .f64 b_t148]] (by rfl) rfl rfl (by (try simp only [List.map_toArray, List.map_cons, List.map_nil]); first | done | rfl | (simp only [List.length_drop, List.length_take]; rfl)) ?_
                              with_reducible refine (spec_CxLess.calls b_fr144_0 fr144_0 b_fr144_1 fr144_1 b_t147 t147 b_t148 t148 t149 t150 _ ?side1 ?side2 ?side3 ?side4 A20.out).mono ?_
                              (case side1 => exact hF_fr144_0)
                              (case side2 => exact hF_fr144_1)
                              (case side3 => exact hF_t147)
                              (case side4 => exact hF_t148)
                              rintro e w24 ⟨b_t149, b_t150, rfl, hF_t149, hF_t150, hb⟩
                              have HS0_ := (hb.cell (World.block_lt_of_cell? _ _ (hHeld.1))).trans (hHeld.1)
                              have HS1_ := (hb.cell (World.block_lt_of_cell? _ _ (hHeld.2.1))).trans (hHeld.2.1)
                              have HS2_ := (hb.cell (World.block_lt_of_cell? _ _ (hHeld.2.2.1))).trans (hHeld.2.2.1)
                              have HS3_ := (hb.cell (World.block_lt_of_cell? _ _ (hHeld.2.2.2.1))).trans (hHeld.2.2.2.1)
                              refine ⟨_, rfl, ?_⟩
                              have n0_ := Aside0.mk (Kd.R_below (by (with_reducible repeat (first | apply Kd.R_alloc | apply Kd.R_drewN | apply Kd.R_drew)); exact HO_4.out) hb)
                              have n1_ := Aside0.mk (Kd.R_below (by (with_reducible repeat (first | apply Kd.R_alloc | apply Kd.R_drewN | apply Kd.R_drew)); exact HO_6.out) hb)
                              have n2_ := Aside0.mk (below_step (by repeat (first | (with_reducible first | exact HB.out | apply below_alloc | apply pw_below_drewN | apply below_drew1) | exact HB.out)) hb)
                              clear HO_4
                              clear HO_6
                              clear HB
                              have HO_4 := n0_
                              have HO_6 := n1_
                              have HB := n2_
                              clear n0_ n1_ n2_
                              (try clear hb)
                              (try clear hb2)
                              (try clear hk)
                              (try clear hi)
                              refine hK.out _ _ ⟨HS0_, HS1_, HS2_, HS3_, ((HB.out.cell (World.block_lt_of_cell? w _ hw146_0)).trans hw146_0), ((HB.out.cell (World.block_lt_of_cell? w _ hw146_1)).trans hw146_1)⟩ (fun hHeld => ?_)
                              clear hK K
                              refine norm_ (a' := ?_) ?_ ?_
                              rotate_left
                              · show Act.put _ (some 45) _ = _
                                simp only [Act.put, List.setIfInBounds_toArray, List.set_cons_zero, List.set_cons_succ, i64_w, i32_w]
                                rfl
                              refine last_ (i := 16) (N := some 46) #[true, true, true, true, true, true, true, true, true, true, true, true, true, true, true, true, true, false, false] rfl rfl (one_of HT_.out (by kernel_rfl)) (by decide) (fun K hK => ?_)
                              refine value_ (w1 := ?_) (v := ?_) (by rfl) rfl ?_ ?_
                              rotate_left 2
                              · go_simp
                                constructor
                                · rfl
                                · rfl
                              refine hK.out _ _ ?_
                              clear hK K
                              refine norm_ (a' := ?_) ?_ ?_
                              rotate_left
                              · show Act.put _ (some 46) _ = _
                                simp only [Act.put, List.setIfInBounds_toArray, List.set_cons_zero, List.set_cons_succ, i64_w, i32_w]
                                rfl
                              refine last_ (i := 17) (N := some 47) #[true, true, true, true, true, true, true, true, true, true, true, true, true, true, true, true, true, true, false] rfl rfl (one_of HT_.out (by kernel_rfl)) (by decide) (fun K hK => ?_)
                              refine Kd.R_append_step k34 (w0 := w) w.heap.size (by rfl) (.tmp 30) (.tmp 46) 37 34 (.agg #[(.float .f64 0), (.float .f64 0)]) 16 rfl Try.underlying37 info34 rfl (by decide) (by omega) u6 x6_2 (⟨t149, t150⟩ : S34) [.float .f64 b_t149, .float .f64 b_t150] (fun k_ => some k_ ≠ (.slice (some ad140) x4_1.length co9 : Value).ownBlock) (fun _ => False) rfl rfl ?aP (fun _ hk => hk.elim) ?aF ?aO ?aB ?aS ?aL ?_
                              (case aP => exact k34_mkM _ _ _ (⟨t149, t150⟩ : S34) hF_t149 hF_t150)
                              (case aB => exact (by repeat (first | (with_reducible first | exact HB.out | apply below_alloc | apply pw_below_drewN | apply below_drew1) | exact HB.out)))
                              (case aF => exact (fun k_ hk => Kd.fresh' (Kd.R_lt (by (with_reducible repeat (first | apply Kd.R_alloc | apply Kd.R_drewN | apply Kd.R_drew)); exact HO_4.out)) k_ hk))
                              (case aO => exact (by (with_reducible repeat (first | apply Kd.R_alloc | apply Kd.R_drewN | apply Kd.R_drew)); exact HO_6.out))
                              (case aS => exact (below_size (by repeat (first | (with_reducible first | exact HB.out | apply below_alloc | apply pw_below_drewN | apply below_drew1) | exact HB.out))))
                              (case aL => have := LMc21.out; omega)
                              intro v152 w25 ho hb hg hat
                              rw [← Ny151.out] at ho
                              have n0_ := Aside0.mk (Kd.R_after (ok := (fun _ => True)) (by (with_reducible repeat (first | apply Kd.R_alloc | apply Kd.R_drewN | apply Kd.R_drew)); exact Kd.R_mono HO_4.out (fun _ hk => ⟨trivial, hk⟩)) hg hat)
                              have n1_ := Aside0.mk (hb)
                              have n2_ := Aside0.mk (ho)
                              clear HO_4
                              clear HB
                              clear HO_6
                              have HO_4 := n0_
                              have HB := n1_
                              have HO153 := n2_
                              clear n0_ n1_ n2_
                              clear ho hb hg hat
                              refine hK.out _ _ ?_
                              clear hK K
                              refine norm_ (a' := ?_) ?_ ?_
                              rotate_left
                              · show Act.put _ (some 47) _ = _
                                simp only [Act.put, List.setIfInBounds_toArray, List.set_cons_zero, List.set_cons_succ, i64_w, i32_w]
                                rfl
                              refine pure_ (i := 18) (N := some 6) (v := ?_) (a' := ?_) #[true, true, true, true, true, true, true, true, true, true, true, true, true, true, true, true, true, true, true] rfl rfl (any_of HT_.out (by kernel_rfl)) (fun _ _ _ h => h) (Or.inl ⟨by rfl, ?_⟩) ?_ ?_
                              rotate_left
                              · intro w'
                                go_simp
                                with_reducible rfl
                              rotate_left
                              · simp only [Act.put, List.setIfInBounds_toArray, List.set_cons_zero, List.set_cons_succ, i64_w, i32_w]
                                rfl
                              refine done_ (done_of HT_.out (by kernel_rfl)) ?_
                              try go_wp2
                              go_roundg k2
                              case measure => have := HK1.out; have := HK2.out; omega
                              case rel => exact ⟨(y151), (wrap64 (x7_2 + 1)), (by first | rfl | (simp; done) | (simp [*]; done)), H', ⟨by have := HK1.out; have := HK2.out; omega⟩, ⟨by (with_reducible repeat (first | apply Kd.R_alloc | apply Kd.R_drewN | apply Kd.R_drew)); exact Kd.R_mono HO_4.out (fun _ hk => hk.2)⟩, ⟨by (with_reducible repeat (first | apply Kd.R_alloc | apply Kd.R_drewN | apply Kd.R_drew)); exact HO153.out⟩, ⟨by repeat (first | (with_reducible first | exact HB.out | apply below_alloc | apply pw_below_drewN | apply below_drew1) | exact HB.out)⟩⟩
                            · rw [if_neg c21] at H
                              exact absurd H (by simp)
                          · rw [if_neg c18] at H
                            exact absurd H (by simp)
                        · rw [if_neg c17] at H
                          exact absurd H (by simp)
                      · rw [if_neg c16] at H
                        exact absurd H (by simp)
                    · rw [if_neg c15] at H
                      exact absurd H (by simp)
                  · rw [if_neg c13] at H
                    exact absurd H (by simp)
                · rw [if_neg c12] at H
                  have c12b0 : decide (x7_2 < (x4_1.length : Int)) = false := decide_eq_false c12
                  clear c12
                  obtain ⟨ji26, hji26⟩ : ∃ j_ : Int, (wrap64 ((x4_1.length : Int) - 1)) = j_ := ⟨_, rfl⟩
                  replace H : (if 0 ≤ (ji26) then (if (ji26) < (x4_1.length : Int) then (if 0 ≤ x5_1 then (if x5_1 < (l0.length : Int) then ((spec_CxTimes.f ((rd_T34 x4_1 (ji26)).f0) ((rd_T34 x4_1 (ji26)).f1) ((rd_T34 l0 x5_1).f0) ((rd_T34 l0 x5_1).f1)).bind fun bt156 => ((spec_CxLess.f (cn .f64 0) (cn .f64 0) bt156.1 bt156.2).bind fun bt158 => (if x6_2.length < 8796093022208 then (spec_FromRoots.l0 k2 l0 (x6_2 ++ [(⟨bt158.1, bt158.2⟩ : S34)]) (wrap64 (x5_1 + 1))) else (none)))) else (none)) else (none)) else (none)) else (none)) = some (r1, r2) := by first | (rw [hji26] at H; exact H) | (simp only [hji26] at H ⊢; exact H)
                  have hji26w : (IntKind.i64.wrap ((x4_1.length : Int) - 1)) = ji26 := (i64_w _).trans hji26
                  by_cases c27 : 0 ≤ (ji26)
                  · rw [if_pos c27] at H
                    have c27b0 : decide (0 ≤ (ji26)) = true := decide_eq_true c27
                    clear c27
                    by_cases c28 : (ji26) < (x4_1.length : Int)
                    · rw [if_pos c28] at H
                      have c28b0 : decide ((ji26) < (x4_1.length : Int)) = true := decide_eq_true c28
                      clear c28
                      obtain ⟨fr154_0, hfr154_0⟩ : ∃ y_ : Fl, y_ = ((rd_T34 x4_1 (ji26)).f0) := ⟨_, rfl⟩
                      replace H : (if 0 ≤ x5_1 then (if x5_1 < (l0.length : Int) then ((spec_CxTimes.f fr154_0 ((rd_T34 x4_1 (ji26)).f1) ((rd_T34 l0 x5_1).f0) ((rd_T34 l0 x5_1).f1)).bind fun bt156 => ((spec_CxLess.f (cn .f64 0) (cn .f64 0) bt156.1 bt156.2).bind fun bt158 => (if x6_2.length < 8796093022208 then (spec_FromRoots.l0 k2 l0 (x6_2 ++ [(⟨bt158.1, bt158.2⟩ : S34)]) (wrap64 (x5_1 + 1))) else (none)))) else (none)) else (none)) = some (r1, r2) := by first | (rw [hfr154_0]; with_reducible exact H) | (have H2_ := (Option.bind_some _ _).symm.trans H; rw [hfr154_0]; with_reducible exact H2_) | (have H2_ := (Option.bind_some _ _).symm.trans H; with_reducible exact H2_) | with_reducible exact H | (rw [hfr154_0]; exact H) | exact H
                      have Nfr154_0 := Aside0.mk hfr154_0
                      clear hfr154_0
                      obtain ⟨fr154_1, hfr154_1⟩ : ∃ y_ : Fl, y_ = ((rd_T34 x4_1 (ji26)).f1) := ⟨_, rfl⟩
                      replace H : (if 0 ≤ x5_1 then (if x5_1 < (l0.length : Int) then ((spec_CxTimes.f fr154_0 fr154_1 ((rd_T34 l0 x5_1).f0) ((rd_T34 l0 x5_1).f1)).bind fun bt156 => ((spec_CxLess.f (cn .f64 0) (cn .f64 0) bt156.1 bt156.2).bind fun bt158 => (if x6_2.length < 8796093022208 then (spec_FromRoots.l0 k2 l0 (x6_2 ++ [(⟨bt158.1, bt158.2⟩ : S34)]) (wrap64 (x5_1 + 1))) else (none)))) else (none)) else (none)) = some (r1, r2) := by first | (rw [hfr154_1]; with_reducible exact H) | (have H2_ := (Option.bind_some _ _).symm.trans H; rw [hfr154_1]; with_reducible exact H2_) | (have H2_ := (Option.bind_some _ _).symm.trans H; with_reducible exact H2_) | with_reducible exact H | (rw [hfr154_1]; exact H) | exact H
                      have Nfr154_1 := Aside0.mk hfr154_1
                      clear hfr154_1
                      by_cases c29 : 0 ≤ x5_1
                      · rw [if_pos c29] at H
                        have c29b0 : decide (0 ≤ x5_1) = true := decide_eq_true c29
                        clear c29
                        by_cases c30 : x5_1 < (l0.length : Int)
                        · rw [if_pos c30] at H
                          have c30b0 : decide (x5_1 < (l0.length : Int)) = true := decide_eq_true c30
                          clear c30
                          obtain ⟨fr155_0, hfr155_0⟩ : ∃ y_ : Fl, y_ = ((rd_T34 l0 x5_1).f0) := ⟨_, rfl⟩
                          replace H : ((spec_CxTimes.f fr154_0 fr154_1 fr155_0 ((rd_T34 l0 x5_1).f1)).bind fun bt156 => ((spec_CxLess.f (cn .f64 0) (cn .f64 0) bt156.1 bt156.2).bind fun bt158 => (if x6_2.length < 8796093022208 then (spec_FromRoots.l0 k2 l0 (x6_2 ++ [(⟨bt158.1, bt158.2⟩ : S34)]) (wrap64 (x5_1 + 1))) else (none)))) = some (r1, r2) := by first | (rw [hfr155_0]; with_reducible exact H) | (have H2_ := (Option.bind_some _ _).symm.trans H; rw [hfr155_0]; with_reducible exact H2_) | (have H2_ := (Option.bind_some _ _).symm.trans H; with_reducible exact H2_) | with_reducible exact H | (rw [hfr155_0]; exact H) | exact H
                          have Nfr155_0 := Aside0.mk hfr155_0
                          clear hfr155_0
                          obtain ⟨fr155_1, hfr155_1⟩ : ∃ y_ : Fl, y_ = ((rd_T34 l0 x5_1).f1) := ⟨_, rfl⟩
                          replace H : ((spec_CxTimes.f fr154_0 fr154_1 fr155_0 fr155_1).bind fun bt156 => ((spec_CxLess.f (cn .f64 0) (cn .f64 0) bt156.1 bt156.2).bind fun bt158 => (if x6_2.length < 8796093022208 then (spec_FromRoots.l0 k2 l0 (x6_2 ++ [(⟨bt158.1, bt158.2⟩ : S34)]) (wrap64 (x5_1 + 1))) else (none)))) = some (r1, r2) := by first | (rw [hfr155_1]; with_reducible exact H) | (have H2_ := (Option.bind_some _ _).symm.trans H; rw [hfr155_1]; with_reducible exact H2_) | (have H2_ := (Option.bind_some _ _).symm.trans H; with_reducible exact H2_) | with_reducible exact H | (rw [hfr155_1]; exact H) | exact H
                          have Nfr155_1 := Aside0.mk hfr155_1
                          clear hfr155_1
                          replace H := Option.bind_eq_some_iff.mp H
                          obtain ⟨⟨t156, t157⟩, A310, H⟩ := H
                          replace H : ((spec_CxLess.f (cn .f64 0) (cn .f64 0) t156 t157).bind fun bt158 => (if x6_2.length < 8796093022208 then (spec_FromRoots.l0 k2 l0 (x6_2 ++ [(⟨bt158.1, bt158.2⟩ : S34)]) (wrap64 (x5_1 + 1))) else (none))) = some (r1, r2) := H
                          have A31 := Aside0.mk A310
                          clear A310
                          replace H := Option.bind_eq_some_iff.mp H
                          obtain ⟨⟨t158, t159⟩, A320, H⟩ := H
                          replace H : (if x6_2.length < 8796093022208 then (spec_FromRoots.l0 k2 l0 (x6_2 ++ [(⟨t158, t159⟩ : S34)]) (wrap64 (x5_1 + 1))) else (none)) = some (r1, r2) := H
                          have A32 := Aside0.mk A320
                          clear A320
                          by_cases c33 : x6_2.length < 8796093022208
                          · rw [if_pos c33] at H
                            have LMc33 := Aside0.mk c33
                            clear c33
                            obtain ⟨y160, hy160⟩ : ∃ y_ : List (S34), y_ = (x6_2 ++ [(⟨t158, t159⟩ : S34)]) := ⟨_, rfl⟩
                            replace H : (spec_FromRoots.l0 k2 l0 y160 (wrap64 (x5_1 + 1))) = some (r1, r2) := by first | (rw [hy160]; with_reducible exact H) | (have H2_ := (Option.bind_some _ _).symm.trans H; rw [hy160]; with_reducible exact H2_) | (have H2_ := (Option.bind_some _ _).symm.trans H; with_reducible exact H2_) | with_reducible exact H | (rw [hy160]; exact H) | exact H
                            have Ny160 := Aside0.mk hy160
                            clear hy160
                            have H' := Aside0.mk H
                            clear H
                            try go_wp2
                            have n0_ := Aside0.mk (Kd.R_drew HO_4.out)
                            have n1_ := Aside0.mk (Kd.R_drew HO_6.out)
                            have n2_ := Aside0.mk (below_drew1 HB.out)
                            clear HO_4
                            clear HO_6
                            clear HB
                            have HO_4 := n0_
                            have HO_6 := n1_
                            have HB := n2_
                            clear n0_ n1_ n2_
                            have p154 : 0 ≤ ((ji26) : Int) := of_decide_eq_true (by first | (with_reducible assumption) | assumption)
                            have q154 : (ji26) < (x4_1.length : Int) := of_decide_eq_true (by first | (with_reducible assumption) | assumption)
                            obtain ⟨ad154, b_fr154_0, b_fr154_1, e154, hx154_0, hx154_1, hF154_0, hF154_1⟩ := at_T34 (Kd.R_reads' HO_4.out).2.2 (ji26) p154 q154
                            have hF_fr154_0 := hF154_0.trans Nfr154_0.out.symm
                            clear hF154_0
                            have hF_fr154_1 := hF154_1.trans Nfr154_1.out.symm
                            clear hF154_1
                            obtain rfl : ad140 = ad154 := (by injection e154)
                            replace p154 := eq_true p154
                            replace q154 := eq_true q154
                            have p155 : 0 ≤ (x5_1 : Int) := of_decide_eq_true (by first | (with_reducible assumption) | assumption)
                            have q155 : x5_1 < (l0.length : Int) := of_decide_eq_true (by first | (with_reducible assumption) | assumption)
                            obtain ⟨ad155, b_fr155_0, b_fr155_1, e155, hx155_0, hx155_1, hF155_0, hF155_1⟩ := at_T34 HR0.out x5_1 p155 q155
                            have hw155_1 := hx155_1
                            have hw155_0 := hx155_0
                            have hF_fr155_0 := hF155_0.trans Nfr155_0.out.symm
                            clear hF155_0
                            have hF_fr155_1 := hF155_1.trans Nfr155_1.out.symm
                            clear hF155_1
                            cases e155
                            replace hx155_0 := (HB.out.cell (World.block_lt_of_cell? w _ hx155_0)).trans hx155_0
                            replace hx155_1 := (HB.out.cell (World.block_lt_of_cell? w _ hx155_1)).trans hx155_1
                            replace p155 := eq_true p155
                            replace q155 := eq_true q155
                            refine start_ (n := 17) (S := fun w' => w'.cell? (ad140.add (((ji26)).toNat * 2)) = some (.float .f64 b_fr154_0) ∧ w'.cell? ⟨(ad140.add (((ji26)).toNat * 2)).block, (ad140.add (((ji26)).toNat * 2)).off + 1, none⟩ = some (.float .f64 b_fr154_1) ∧ w'.cell? (ad155.add ((x5_1).toNat * 2)) = some (.float .f64 b_fr155_0) ∧ w'.cell? ⟨(ad155.add ((x5_1).toNat * 2)).block, (ad155.add ((x5_1).toNat * 2)).off + 1, none⟩ = some (.float .f64 b_fr155_1)) (ds := [14, 15]) #[false, false, false, false, false, false, false, false, false, false, false, false, false, false, false, false, false] (by kernel_rfl) rfl rfl ⟨hx154_0, hx154_1, ((HB.out.cell (World.block_lt_of_cell? w _ hw155_0)).trans hw155_0), ((HB.out.cell (World.block_lt_of_cell? w _ hw155_1)).trans hw155_1)⟩ (fun hHeld => ?_); refine with_tabW spec_FromRoots.tab12 spec_FromRoots.bits12 (fun HT_ HW_ => ?_)
                            generalize wr.drew = w34 at HO_4 HO_6 HB hx154_0 hx154_1 hx155_0 hx155_1 hHeld ⊢
                            refine pure_ (i := 0) (N := some 48) (v := ?_) (a' := ?_) #[true, false, false, false, false, false, false, false, false, false, false, false, false, false, false, false, false] rfl rfl (any_of HT_.out (by kernel_rfl)) (fun _ _ _ h => h) (Or.inl ⟨by rfl, ?_⟩) ?_ ?_
                            rotate_left
                            · intro w'
                              go_simp
                              with_reducible rfl
                            rotate_left
                            · simp only [Act.put, List.setIfInBounds_toArray, List.set_cons_zero, List.set_cons_succ, i64_w, i32_w]
                              rfl
                            refine pure_ (i := 1) (N := some 49) (v := ?_) (a' := ?_) #[true, true, false, false, false, false, false, false, false, false, false, false, false, false, false, false, false] rfl rfl (any_of HT_.out (by kernel_rfl)) (fun _ _ _ h => h) (Or.inl ⟨by rfl, ?_⟩) ?_ ?_
                            rotate_left
                            · intro w'
                              go_simp
                              with_reducible rfl
                            rotate_left
                            · simp only [Act.put, List.setIfInBounds_toArray, List.set_cons_zero, List.set_cons_succ, i64_w, i32_w]
                              rfl
                            refine pure_ (i := 2) (N := some 50) (v := ?_) (a' := ?_) #[true, true, true, false, false, false, false, false, false, false, false, false, false, false, false, false, false] rfl rfl (any_of HT_.out (by kernel_rfl)) (fun _ _ _ h => h) (Or.inl ⟨by rfl, ?_⟩) ?_ ?_
                            rotate_left
                            · intro w'
                              go_simp
                              with_reducible rfl
                            rotate_left
                            · simp only [Act.put, List.setIfInBounds_toArray, List.set_cons_zero, List.set_cons_succ, i64_w, i32_w]
                              rfl
                            refine pure_ (i := 3) (N := some 51) (v := ?_) (a' := ?_) #[true, true, true, true, false, false, false, false, false, false, false, false, false, false, false, false, false] rfl rfl (any_of HT_.out (by kernel_rfl)) (fun _ _ _ h => h) (Or.inl ⟨by rfl, ?_⟩) ?_ ?_
                            rotate_left
                            · intro w'
                              go_simp
                              with_reducible rfl
                            rotate_left
                            · simp only [Act.put, List.setIfInBounds_toArray, List.set_cons_zero, List.set_cons_succ, i64_w, i32_w]
                              rfl
                            refine pure_ (i := 4) (N := some 52) (v := ?_) (a' := ?_) #[true, true, true, true, true, false, false, false, false, false, false, false, false, false, false, false, false] rfl rfl (any_of HT_.out (by kernel_rfl)) (fun _ _ _ h => h) (Or.inl ⟨by rfl, ?_⟩) ?_ ?_
                            rotate_left
                            · intro w'
                              go_simp
                              with_reducible rfl
                            rotate_left
                            · simp only [Act.put, List.setIfInBounds_toArray, List.set_cons_zero, List.set_cons_succ, i64_w, i32_w]
                              rfl
                            refine pure_ (i := 5) (N := some 53) (v := ?_) (a' := ?_) #[true, true, true, true, true, true, false, false, false, false, false, false, false, false, false, false, false] rfl rfl (any_of HT_.out (by kernel_rfl)) (fun _ _ _ h => h) (Or.inl ⟨by rfl, ?_⟩) ?_ ?_
                            rotate_left
                            · intro w'
                              go_simp
                              with_reducible rfl
                            rotate_left
                            · simp only [Act.put, List.setIfInBounds_toArray, List.set_cons_zero, List.set_cons_succ, i64_w, i32_w]
                              rfl
                            refine pure_ (i := 6) (N := some 54) (v := ?_) (a' := ?_) #[true, true, true, true, true, true, true, false, false, false, false, false, false, false, false, false, false] rfl rfl (any_of HT_.out (by kernel_rfl)) (fun _ _ _ h => h) (Or.inl ⟨by rfl, ?_⟩) ?_ ?_
                            rotate_left
                            · intro w'
                              go_simp
                              with_reducible rfl
                            rotate_left
                            · simp only [Act.put, List.setIfInBounds_toArray, List.set_cons_zero, List.set_cons_succ, i64_w, i32_w]
                              rfl
                            refine pure_ (i := 8) (N := some 56) (v := ?_) (a' := ?_) #[true, true, true, true, true, true, true, false, true, false, false, false, false, false, false, false, false] rfl rfl (any_of HT_.out (by kernel_rfl)) (fun _ _ _ h => h) (Or.inl ⟨by rfl, ?_⟩) ?_ ?_
                            rotate_left
                            · intro w'
                              go_simp
                              with_reducible rfl
                            rotate_left
                            · simp only [Act.put, List.setIfInBounds_toArray, List.set_cons_zero, List.set_cons_succ, i64_w, i32_w]
                              rfl
                            refine pure_ (i := 9) (N := some 57) (v := ?_) (a' := ?_) #[true, true, true, true, true, true, true, false, true, true, false, false, false, false, false, false, false] rfl rfl (any_of HT_.out (by kernel_rfl)) (fun _ _ _ h => h) (Or.inl ⟨by rfl, ?_⟩) ?_ ?_
                            rotate_left
                            · intro w'
                              go_simp
                              with_reducible rfl
                            rotate_left
                            · simp only [Act.put, List.setIfInBounds_toArray, List.set_cons_zero, List.set_cons_succ, i64_w, i32_w]
                              rfl
                            refine pure_ (i := 10) (N := some 58) (v := ?_) (a' := ?_) #[true, true, true, true, true, true, true, false, true, true, true, false, false, false, false, false, false] rfl rfl (any_of HT_.out (by kernel_rfl)) (fun _ _ _ h => h) (Or.inl ⟨by rfl, ?_⟩) ?_ ?_
                            rotate_left
                            · intro w'
                              go_simp
                              with_reducible rfl
                            rotate_left
                            · simp only [Act.put, List.setIfInBounds_toArray, List.set_cons_zero, List.set_cons_succ, i64_w, i32_w]
                              rfl
                            refine take_ (i := 7) (N := some 55) (v := ?_) (a' := ?_) #[true, true, true, true, true, true, true, true, true, true, true, false, false, false, false, false, false] rfl rfl (take_ofW HT_.out HW_.out (by kernel_rfl)) (fun _ _ _ h => h) (Or.inl ⟨by rfl, ?_⟩) hHeld ?_ ?_
                            rotate_left
                            · rintro w' ⟨s0, s1, s2, s3⟩
                              go_simp
                              with_reducible rfl
                            rotate_left
                            · simp only [Act.put, List.setIfInBounds_toArray, List.set_cons_zero, List.set_cons_succ, i64_w, i32_w]
                              rfl
                            refine take_ (i := 11) (N := some 59) (v := ?_) (a' := ?_) #[true, true, true, true, true, true, true, true, true, true, true, true, false, false, false, false, false] rfl rfl (take_ofW HT_.out HW_.out (by kernel_rfl)) (fun _ _ _ h => h) (Or.inl ⟨by rfl, ?_⟩) hHeld ?_ ?_
                            rotate_left
                            · rintro w' ⟨s0, s1, s2, s3⟩
                              go_simp
                              with_reducible rfl
                            rotate_left
                            · simp only [Act.put, List.setIfInBounds_toArray, List.set_cons_zero, List.set_cons_succ, i64_w, i32_w]
                              rfl
                            refine one_ (i := 12) (N := some 60) #[true, true, true, true, true, true, true, true, true, true, true, true, true, false, false, false, false] rfl rfl (one_of HT_.out (by kernel_rfl)) (by decide) (fun K hK => ?_)
                            refine goes_ Try.func69 (by kernel_rfl) rfl #[.agg #[.float .f64 b_fr154_0, .float .f64 b_fr154_1], .agg #[.float .f64 b_fr155_0, .float .f64 b_fr155_1]] (by rfl) rfl rfl (by (try simp only [List.map_toArray, List.map_cons, List.map_nil]); first | done | rfl | (simp only [List.length_drop, List.length_take]; rfl)) ?_
                            with_reducible refine (spec_CxTimes.calls b_fr154_0 fr154_0 b_fr154_1 fr154_1 b_fr155_0 fr155_0 b_fr155_1 fr155_1 t156 t157 _ ?side1 ?side2 ?side3 ?side4 A31.out).mono ?_
                            (case side1 => exact hF_fr154_0)
                            (case side2 => exact hF_fr154_1)
                            (case side3 => exact hF_fr155_0)
                            (case side4 => exact hF_fr155_1)
                            rintro e w35 ⟨b_t156, b_t157, rfl, hF_t156, hF_t157, hb⟩
                            have HS0_ := (hb.cell (World.block_lt_of_cell? _ _ (hHeld.1))).trans (hHeld.1)
                            have HS1_ := (hb.cell (World.block_lt_of_cell? _ _ (hHeld.2.1))).trans (hHeld.2.1)
                            refine ⟨_, rfl, ?_⟩
                            have n0_ := Aside0.mk (Kd.R_below (by (with_reducible repeat (first | apply Kd.R_alloc | apply Kd.R_drewN | apply Kd.R_drew)); exact HO_4.out) hb)
                            have n1_ := Aside0.mk (Kd.R_below (by (with_reducible repeat (first | apply Kd.R_alloc | apply Kd.R_drewN | apply Kd.R_drew)); exact HO_6.out) hb)
                            have n2_ := Aside0.mk (below_step (by repeat (first | (with_reducible first | exact HB.out | apply below_alloc | apply pw_below_drewN | apply below_drew1) | exact HB.out)) hb)
                            clear HO_4
                            clear HO_6
                            clear HB
                            have HO_4 := n0_
                            have HO_6 := n1_
                            have HB := n2_
                            clear n0_ n1_ n2_
                            (try clear hb)
                            (try clear hb2)
                            (try clear hk)
                            (try clear hi)
                            refine hK.out _ _ ⟨HS0_, HS1_, ((HB.out.cell (World.block_lt_of_cell? w _ hw155_0)).trans hw155_0), ((HB.out.cell (World.block_lt_of_cell? w _ hw155_1)).trans hw155_1)⟩ (fun hHeld => ?_)
                            clear hK K
                            refine norm_ (a' := ?_) ?_ ?_
                            rotate_left
                            · show Act.put _ (some 60) _ = _
                              simp only [Act.put, List.setIfInBounds_toArray, List.set_cons_zero, List.set_cons_succ, i64_w, i32_w]
                              rfl
                            refine one_ (i := 13) (N := some 61) #[true, true, true, true, true, true, true, true, true, true, true, true, true, true, false, false, false] rfl rfl (one_of HT_.out (by kernel_rfl)) (by decide) (fun K hK => ?_)
                            refine goes_ Try.func78 (by kernel_rfl) rfl #[.agg #[.float .f64 0, .float .f64 0], .agg #[.float .f64 b_t156, .float .f64 b_t157]] (by rfl) rfl rfl (by (try simp only [List.map_toArray, List.map_cons, List.map_nil]); first | done | rfl | (simp only [List.length_drop, List.length_take]; rfl)) ?_
                            with_reducible refine (spec_CxLess.calls 0 (cn .f64 0) 0 (cn .f64 0) b_t156 t156 b_t157 t157 t158 t159 _ ?side1 ?side2 ?side3 ?side4 A32.out).mono ?_
                            (case side1 => exact rfl)
                            (case side2 => exact rfl)
                            (case side3 => exact hF_t156)
                            (case side4 => exact hF_t157)
                            rintro e w36 ⟨b_t158, b_t159, rfl, hF_t158, hF_t159, hb⟩
                            have HS0_ := (hb.cell (World.block_lt_of_cell? _ _ (hHeld.1))).trans (hHeld.1)
                            have HS1_ := (hb.cell (World.block_lt_of_cell? _ _ (hHeld.2.1))).trans (hHeld.2.1)
                            refine ⟨_, rfl, ?_⟩
                            have n0_ := Aside0.mk (Kd.R_below (by (with_reducible repeat (first | apply Kd.R_alloc | apply Kd.R_drewN | apply Kd.R_drew)); exact HO_4.out) hb)
                            have n1_ := Aside0.mk (Kd.R_below (by (with_reducible repeat (first | apply Kd.R_alloc | apply Kd.R_drewN | apply Kd.R_drew)); exact HO_6.out) hb)
                            have n2_ := Aside0.mk (below_step (by repeat (first | (with_reducible first | exact HB.out | apply below_alloc | apply pw_below_drewN | apply below_drew1) | exact HB.out)) hb)
                            clear HO_4
                            clear HO_6
                            clear HB
                            have HO_4 := n0_
                            have HO_6 := n1_
                            have HB := n2_
                            clear n0_ n1_ n2_
                            (try clear hb)
                            (try clear hb2)
                            (try clear hk)
                            (try clear hi)
                            refine hK.out _ _ ⟨HS0_, HS1_, ((HB.out.cell (World.block_lt_of_cell? w _ hw155_0)).trans hw155_0), ((HB.out.cell (World.block_lt_of_cell? w _ hw155_1)).trans hw155_1)⟩ (fun hHeld => ?_)
                            clear hK K
                            refine norm_ (a' := ?_) ?_ ?_
                            rotate_left
                            · show Act.put _ (some 61) _ = _
                              simp only [Act.put, List.setIfInBounds_toArray, List.set_cons_zero, List.set_cons_succ, i64_w, i32_w]
                              rfl
                            refine last_ (i := 14) (N := some 62) #[true, true, true, true, true, true, true, true, true, true, true, true, true, true, true, false, false] rfl rfl (one_of HT_.out (by kernel_rfl)) (by decide) (fun K hK => ?_)
                            refine value_ (w1 := ?_) (v := ?_) (by rfl) rfl ?_ ?_
                            rotate_left 2
                            · go_simp
                              constructor
                              · rfl
                              · rfl
                            refine hK.out _ _ ?_
                            clear hK K
                            refine norm_ (a' := ?_) ?_ ?_
                            rotate_left
                            · show Act.put _ (some 62) _ = _
                              simp only [Act.put, List.setIfInBounds_toArray, List.set_cons_zero, List.set_cons_succ, i64_w, i32_w]
                              rfl
                            refine last_ (i := 15) (N := some 63) #[true, true, true, true, true, true, true, true, true, true, true, true, true, true, true, true, false] rfl rfl (one_of HT_.out (by kernel_rfl)) (by decide) (fun K hK => ?_)
                            refine Kd.R_append_step k34 (w0 := w) w.heap.size (by rfl) (.tmp 48) (.tmp 62) 37 34 (.agg #[(.float .f64 0), (.float .f64 0)]) 16 rfl Try.underlying37 info34 rfl (by decide) (by omega) u6 x6_2 (⟨t158, t159⟩ : S34) [.float .f64 b_t158, .float .f64 b_t159] (fun k_ => some k_ ≠ (.slice (some ad140) x4_1.length co9 : Value).ownBlock) (fun _ => False) rfl rfl ?aP (fun _ hk => hk.elim) ?aF ?aO ?aB ?aS ?aL ?_
                            (case aP => exact k34_mkM _ _ _ (⟨t158, t159⟩ : S34) hF_t158 hF_t159)
                            (case aB => exact (by repeat (first | (with_reducible first | exact HB.out | apply below_alloc | apply pw_below_drewN | apply below_drew1) | exact HB.out)))
                            (case aF => exact (fun k_ hk => Kd.fresh' (Kd.R_lt (by (with_reducible repeat (first | apply Kd.R_alloc | apply Kd.R_drewN | apply Kd.R_drew)); exact HO_4.out)) k_ hk))
                            (case aO => exact (by (with_reducible repeat (first | apply Kd.R_alloc | apply Kd.R_drewN | apply Kd.R_drew)); exact HO_6.out))
                            (case aS => exact (below_size (by repeat (first | (with_reducible first | exact HB.out | apply below_alloc | apply pw_below_drewN | apply below_drew1) | exact HB.out))))
                            (case aL => have := LMc33.out; omega)
                            intro v161 w37 ho hb hg hat
                            rw [← Ny160.out] at ho
                            have n0_ := Aside0.mk (Kd.R_after (ok := (fun _ => True)) (by (with_reducible repeat (first | apply Kd.R_alloc | apply Kd.R_drewN | apply Kd.R_drew)); exact Kd.R_mono HO_4.out (fun _ hk => ⟨trivial, hk⟩)) hg hat)
                            have n1_ := Aside0.mk (hb)
                            have n2_ := Aside0.mk (ho)
                            clear HO_4
                            clear HB
                            clear HO_6
                            have HO_4 := n0_
                            have HB := n1_
                            have HO162 := n2_
                            clear n0_ n1_ n2_
                            clear ho hb hg hat
                            refine hK.out _ _ ?_
                            clear hK K
                            refine norm_ (a' := ?_) ?_ ?_
                            rotate_left
                            · show Act.put _ (some 63) _ = _
                              simp only [Act.put, List.setIfInBounds_toArray, List.set_cons_zero, List.set_cons_succ, i64_w, i32_w]
                              rfl
                            refine pure_ (i := 16) (N := some 4) (v := ?_) (a' := ?_) #[true, true, true, true, true, true, true, true, true, true, true, true, true, true, true, true, true] rfl rfl (any_of HT_.out (by kernel_rfl)) (fun _ _ _ h => h) (Or.inl ⟨by rfl, ?_⟩) ?_ ?_
                            rotate_left
                            · intro w'
                              go_simp
                              with_reducible rfl
                            rotate_left
                            · simp only [Act.put, List.setIfInBounds_toArray, List.set_cons_zero, List.set_cons_succ, i64_w, i32_w]
                              rfl
                            refine done_ (done_of HT_.out (by kernel_rfl)) ?_
                            try go_wp2
                            go_roundg k2
                            case measure => have := HK1.out; have := HK2.out; omega
                            case rel => exact ⟨(y160), (wrap64 (x5_1 + 1)), (by first | rfl | (simp; done) | (simp [*]; done)), H', ⟨by have := HK1.out; have := HK2.out; omega⟩, ⟨by (with_reducible repeat (first | apply Kd.R_alloc | apply Kd.R_drewN | apply Kd.R_drew)); exact Kd.R_mono HO162.out (fun _ hk => trivial)⟩, ⟨by repeat (first | (with_reducible first | exact HB.out | apply below_alloc | apply pw_below_drewN | apply below_drew1) | exact HB.out)⟩⟩
                          · rw [if_neg c33] at H
                            exact absurd H (by simp)
                        · rw [if_neg c30] at H
                          exact absurd H (by simp)
                      · rw [if_neg c29] at H
                        exact absurd H (by simp)
                    · rw [if_neg c28] at H
                      exact absurd H (by simp)
                  · rw [if_neg c27] at H
                    exact absurd H (by simp)
          · rw [if_neg c8] at H
            exact absurd H (by simp)
        · rw [if_neg c7] at H
          have c7b0 : decide (x5_1 < (l0.length : Int)) = false := decide_eq_false c7
          clear c7
          simp only [Option.some.injEq, Prod.mk.injEq] at H
          obtain ⟨rfl, rfl⟩ := H
          go_wp2
          go_ret2
          exact ⟨_, by first | rfl | (simp [errW_none, errW_some] <;> rfl) | (simp [*, errW_none, errW_some] <;> rfl), by (with_reducible repeat (first | apply Kd.R_alloc | apply Kd.R_drewN | apply Kd.R_drew)); exact HO_4.out, by repeat (first | (with_reducible first | exact HB.out | apply below_alloc | apply pw_below_drewN | apply below_drew1) | exact HB.out)⟩

end Go.Proofs.Ytfopdbdamkfglaa.QFnExactFromRoots
