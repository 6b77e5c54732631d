/- Lean functions that tell what the Go functions used by one law answer, and for each a proof that the Go code comes to just these answers; no condition. Printed by this session's own program over the kit's printer. -/
import Derived.Test.YtfopdbdamkfglaaQFnSizesx0
import Derived.Test.YtfopdbdamkfglaaQFnSizesx1
namespace Go.Proofs.Ytfopdbdamkfglaa.QFnSizes
open Go.RowKit Go.Proofs.YtfopdbdamkfglaaW.PrintWords Go.Proofs.YtfopdbdamkfglaaW.PrintLast Go.Proofs.YtfopdbdamkfglaaW.PrintMore
attribute [local go_sem] max2_int min2_int max_two min_two max_three min_three max_four min_four   -- for this text's walks alone
attribute [local go_sem high] go_eql go_neq go_lss go_leq go_gtr go_geq go_store   -- for this text's walks alone
set_option linter.unusedVariables false
set_option linter.unusedSimpArgs false

/-! ### impl_FromRoots: function 38 -/
mutual
def impl_FromRoots.l0 : Nat → List (S34) → List (S34) → Int → Int → Option ((List (S34)) × Bool)
  | 0, _, _, _, _ => none
  | k + 1, x4, x14, x15, x16 => if x16 < x15 then (if 0 ≤ x16 then (if x16 < (x14.length : Int) then (if 0 < (x4.length : Int) then (impl_FromRoots.l1 k x4 (([(⟨((rd_T34 x4 0).f0), ((rd_T34 x4 0).f1)⟩ : S34)] : List (S34))) 1 x14 x15 x16 ((rd_T34 x14 x16).f0) ((rd_T34 x14 x16).f1)) else (none)) else (none)) else (none)) else (some (x4, true))
def impl_FromRoots.l1 : Nat → List (S34) → List (S34) → Int → List (S34) → Int → Int → Fl → Fl → Option ((List (S34)) × Bool)
  | 0, _, _, _, _, _, _, _, _ => none
  | k + 1, x4, x7, x8, x14, x15, x16, x138000, x138001 => if x8 < (x4.length : Int) then (if 0 ≤ x8 then (if 0 ≤ (wrap64 (x8 - 1)) then (if (wrap64 (x8 - 1)) < (x4.length : Int) then ((impl_CxTimes.f ((rd_T34 x4 (wrap64 (x8 - 1))).f0) ((rd_T34 x4 (wrap64 (x8 - 1))).f1) x138000 x138001).bind fun bt144 => ((impl_CxLess.f ((rd_T34 x4 x8).f0) ((rd_T34 x4 x8).f1) bt144.1 bt144.2).bind fun bt146 => (if x7.length < 8796093022208 then (impl_FromRoots.l1 k x4 (x7 ++ [(⟨bt146.1, bt146.2⟩ : S34)]) (wrap64 (x8 + 1)) x14 x15 x16 x138000 x138001) else (none)))) else (none)) else (none)) else (none)) else (if 0 ≤ (wrap64 ((x4.length : Int) - 1)) then (if (wrap64 ((x4.length : Int) - 1)) < (x4.length : Int) then ((impl_CxTimes.f ((rd_T34 x4 (wrap64 ((x4.length : Int) - 1))).f0) ((rd_T34 x4 (wrap64 ((x4.length : Int) - 1))).f1) x138000 x138001).bind fun bt152 => ((impl_CxLess.f (cn .f64 0) (cn .f64 0) bt152.1 bt152.2).bind fun bt154 => (if x7.length < 8796093022208 then (impl_FromRoots.l0 k (x7 ++ [(⟨bt154.1, bt154.2⟩ : S34)]) x14 x15 (wrap64 (x16 + 1))) else (none)))) else (none)) else (none))
end
def impl_FromRoots.f (k : Nat) (l0 : List (S34)) : Option ((List (S34)) × Bool) := if (l0.length : Int) > 11 then (some (([] : List (S34)), false)) else (impl_FromRoots.l0 k (([(⟨(cn .f64 4607182418800017408), (cn .f64 0)⟩ : S34)] : List (S34))) l0 (l0.length : Int) 0)
theorem impl_FromRoots.mono_l : ∀ k, (∀ y0 y1 y2 y3, LeO (impl_FromRoots.l0 k y0 y1 y2 y3) (impl_FromRoots.l0 (k + 1) y0 y1 y2 y3)) ∧ (∀ y0 y1 y2 y3 y4 y5 y6 y7, LeO (impl_FromRoots.l1 k y0 y1 y2 y3 y4 y5 y6 y7) (impl_FromRoots.l1 (k + 1) y0 y1 y2 y3 y4 y5 y6 y7))
  | 0 => ⟨fun _ _ _ _ r h => by simp [impl_FromRoots.l0] at h, fun _ _ _ _ _ _ _ _ r h => by simp [impl_FromRoots.l1] at h⟩
  | k + 1 => by
    obtain ⟨ih0, ih1⟩ := impl_FromRoots.mono_l k
    refine ⟨?_, ?_⟩
    · intro y0 y1 y2 y3
      unfold impl_FromRoots.l0
      repeat' first
      | (with_reducible exact ih0 _ _ _ _)
      | (with_reducible exact ih1 _ _ _ _ _ _ _ _)
      | (with_reducible exact LeO.refl _)
      | (with_reducible exact LeO.none _)
      | (with_reducible refine LeO.ite ?_ ?_)
      | (with_reducible refine LeO.bind ?_ (fun _ => ?_))
      | exact ih0 _ _ _ _
      | exact ih1 _ _ _ _ _ _ _ _
      | exact LeO.none _
      | refine LeO.ite ?_ ?_
      | refine LeO.bind ?_ (fun _ => ?_)
    · intro y0 y1 y2 y3 y4 y5 y6 y7
      unfold impl_FromRoots.l1
      repeat' first
      | (with_reducible exact ih0 _ _ _ _)
      | (with_reducible exact ih1 _ _ _ _ _ _ _ _)
      | (with_reducible exact LeO.refl _)
      | (with_reducible exact LeO.none _)
      | (with_reducible refine LeO.ite ?_ ?_)
      | (with_reducible refine LeO.bind ?_ (fun _ => ?_))
      | exact ih0 _ _ _ _
      | exact ih1 _ _ _ _ _ _ _ _
      | exact LeO.none _
      | refine LeO.ite ?_ ?_
      | refine LeO.bind ?_ (fun _ => ?_)
theorem impl_FromRoots.mono : ∀ a0 k, LeO (impl_FromRoots.f k a0) (impl_FromRoots.f (k + 1) a0) := by
  intro a0 k
  obtain ⟨ih0, ih1⟩ := impl_FromRoots.mono_l k
  unfold impl_FromRoots.f
  repeat' first
      | (with_reducible exact ih0 _ _ _ _)
      | (with_reducible exact ih1 _ _ _ _ _ _ _ _)
      | (with_reducible exact LeO.refl _)
      | (with_reducible exact LeO.none _)
      | (with_reducible refine LeO.ite ?_ ?_)
      | (with_reducible refine LeO.bind ?_ (fun _ => ?_))
      | exact ih0 _ _ _ _
      | exact ih1 _ _ _ _ _ _ _ _
      | exact LeO.none _
      | refine LeO.ite ?_ ?_
      | refine LeO.bind ?_ (fun _ => ?_)
def impl_FromRoots.T11 : Bool × List (List Nat × List Nat) := (true, [([], []), ([], []), ([], []), ([1, 2], [1, 2]), ([3], [3]), ([], []), ([], []), ([6], [6]), ([5, 7], [5, 7]), ([8], [8]), ([], []), ([9, 10], [9, 10]), ([4, 11, 11], [4, 11]), ([12], [12]), ([0, 13, 12], [0, 13]), ([14, 14, 0, 1, 2, 3, 4, 5, 6, 7, 8, 9, 10, 11, 12, 13, 14], [0, 14])])
def impl_FromRoots.B11 : List Nat := [0, 0, 0, 6, 14, 0, 0, 64, 224, 480, 0, 2016, 4094, 8190, 16383, 32767]
theorem impl_FromRoots.tab11 : rtab .any (opsOf Try.f38 11) = impl_FromRoots.T11 := by kernel_rfl
theorem impl_FromRoots.bits11 : waitsOk impl_FromRoots.T11.2 impl_FromRoots.B11 = true := by kernel_rfl
def impl_FromRoots.T12 : Bool × List (List Nat × List Nat) := (true, [([], []), ([], []), ([], []), ([], []), ([3], [3]), ([4], [4]), ([2, 5], [2, 5]), ([6], [6]), ([], []), ([7, 8], [7, 8]), ([1, 9, 9], [1, 9]), ([10], [10]), ([0, 11, 10], [0, 11]), ([12, 12, 0, 1, 2, 3, 4, 5, 6, 7, 8, 9, 10, 11, 12], [2, 3, 12])])
def impl_FromRoots.B12 : List Nat := [0, 0, 0, 0, 8, 24, 60, 124, 0, 508, 1022, 2046, 4095, 8191]
theorem impl_FromRoots.tab12 : rtab .any (opsOf Try.f38 12) = impl_FromRoots.T12 := by kernel_rfl
theorem impl_FromRoots.bits12 : waitsOk impl_FromRoots.T12.2 impl_FromRoots.B12 = true := by kernel_rfl
set_option maxHeartbeats 8000000 in
set_option maxRecDepth 100000 in
theorem impl_FromRoots.calls (k : Nat) (A0 : Option Addr) (c0 : Nat) (l0 : List (S34)) (r1 : List (S34)) (r2 : Bool) (w : World) (hr0 : Kd.C k34 w A0 l0.length l0) (hc0 : l0.length ≤ c0) (h : impl_FromRoots.f k l0 = some (r1, r2)) :
    Calls Try.prog 38 #[.slice A0 l0.length c0] w fun e w' => ∃ v0_ : Value, e = .returned (.tuple #[v0_, .bool r2]) ∧ Kd.R k34 34 w' w.heap.size (fun _ => True) v0_ r1 ∧ Below w.heap.size w w' := by
  have hu34 := Try.underlying34
  have HR0 := Aside0.mk hr0
  have HC0 := Aside0.mk hc0
  clear hr0 hc0
  have HB := Aside0.mk (Below.refl w.heap.size w)
  have H : (if (l0.length : Int) > 11 then (some (([] : List (S34)), false)) else (impl_FromRoots.l0 k (([(⟨(cn .f64 4607182418800017408), (cn .f64 0)⟩ : S34)] : List (S34))) l0 (l0.length : Int) 0)) = some (r1, r2) := h
  clear h
  by_cases c2 : (l0.length : Int) > 11
  · rw [if_pos c2] at H
    have c2b0 : decide (11 < (l0.length : Int)) = true := decide_eq_true c2
    have c2b1 : decide (11 < l0.length) = true := decide_eq_true (by omega)
    clear c2
    simp only [Option.some.injEq, Prod.mk.injEq] at H
    obtain ⟨rfl, rfl⟩ := H
    go_enter Try.func38, Try.ntmps38
    go_wp2
    go_ret2
    exact ⟨_, by first | rfl | (simp [errW_none, errW_some] <;> rfl) | (simp [*, errW_none, errW_some] <;> rfl), by first | exact Kd.R_nil _ _ _ _ _ | exact Kd.N_nil _ _ _ _ _ | exact Kd.V_nil _ _ _ _ _ | exact Kd.Q_nil _ _ _ _ _ | exact Kd.S_nil _ _ _ _ _, by repeat (first | (with_reducible first | exact HB.out | apply below_alloc | apply pw_below_drewN | apply below_drew1) | exact HB.out)⟩
  · rw [if_neg c2] at H
    have c2b0 : decide (11 < (l0.length : Int)) = false := decide_eq_false c2
    have c2b1 : decide (11 < l0.length) = false := decide_eq_false (by omega)
    clear c2
    obtain ⟨y133, hy133⟩ : ∃ y_ : List (S34), y_ = (([(⟨(cn .f64 4607182418800017408), (cn .f64 0)⟩ : S34)] : List (S34))) := ⟨_, rfl⟩
    replace H : (impl_FromRoots.l0 k y133 l0 (l0.length : Int) 0) = some (r1, r2) := by first | (rw [hy133]; with_reducible exact H) | (have H2_ := (Option.bind_some _ _).symm.trans H; rw [hy133]; with_reducible exact H2_) | (have H2_ := (Option.bind_some _ _).symm.trans H; with_reducible exact H2_) | with_reducible exact H | (rw [hy133]; exact H) | exact H
    have Ny133 := Aside0.mk hy133
    clear hy133
    have H' := Aside0.mk H
    clear H
    go_enter Try.func38, Try.ntmps38
    go_wp2_with (first | ((with_reducible refine gate_dst (N := 13) rfl ?_); refine Kd.R_lit k34 _ 34 ?hg (N := 13) ?hd (xs := ([(⟨(cn .f64 4607182418800017408), (cn .f64 0)⟩ : S34)] : List (S34))) (inner := [.float .f64 4607182418800017408, .float .f64 0]) (ok := fun _ => True) (okp := fun _ => True) ?hr ?hp (fun _ hk => hk) trivial (Below.refl _ _) (Nat.le_refl _) (by simp) ?_; (case hd => rfl); (case hg => rfl); (case hr => first | (go_simp; done) | (go_simp; rfl)); (case hp => exact (Reps.c2 (show Kd.M k34 _ _ _ (⟨(cn .f64 4607182418800017408), (cn .f64 0)⟩ : S34) [.float .f64 4607182418800017408, .float .f64 0] from (k34_mkM _ _ _ (⟨(cn .f64 4607182418800017408), (cn .f64 0)⟩ : S34) rfl rfl)) (Reps.none _ _))); intro v134 w3 ho4 hb hg_ hnew_; clear hg_ hnew_; (first | rw [← Ny133.out] at ho4 | (simp only [Int.reduceToNat] at ho4; rw [← Ny133.out] at ho4)); have n0_ := Aside0.mk (Kd.R_lower ho4 (below_size (by exact HB.out))); have n1_ := Aside0.mk (below_step (by exact HB.out) hb); clear HB; have HO135 := n0_; have HB := n1_; clear n0_ n1_; clear hb ho4))
    go_loopg [4, 16] k (fun kq v4 v16 w' => ∃ (x4_1 : List (S34)) (x16_1 : Int), v16 = .int .i64 x16_1 ∧ Aside0 (impl_FromRoots.l0 kq x4_1 l0 (l0.length : Int) x16_1 = some (r1, r2)) ∧ Aside0 (kq ≤ k) ∧ Aside0 (Kd.R k34 34 w' w.heap.size (fun _ => True) v4 x4_1) ∧ Aside0 (Below w.heap.size w w'))
    case atStart => exact ⟨(y133), (0), (by first | rfl | (simp; done) | (simp [*]; done)), H', ⟨Nat.le_refl _⟩, ⟨by (with_reducible repeat (first | apply Kd.R_alloc | apply Kd.R_drewN | apply Kd.R_drew)); exact HO135.out⟩, ⟨by repeat (first | (with_reducible first | exact HB.out | apply below_alloc | apply pw_below_drewN | apply below_drew1) | exact HB.out)⟩⟩
    case round =>
      clear H'
      try clear c2
      try clear c2b0
      try clear c2b1
      try clear p2
      try clear c3
      obtain ⟨x4_1, x16_1, rfl, HA, HK1, HO_4, HB⟩ := hrel
      cases gk with
      | zero => exact absurd HA.out (by simp [impl_FromRoots.l0])
      | succ k1 =>
        have H := HA.out
        clear HA
        simp only [impl_FromRoots.l0] at H
        by_cases c5 : x16_1 < (l0.length : Int)
        · rw [if_pos c5] at H
          have c5b0 : decide (x16_1 < (l0.length : Int)) = true := decide_eq_true c5
          clear c5
          by_cases c6 : 0 ≤ x16_1
          · rw [if_pos c6] at H
            have c6b0 : decide (0 ≤ x16_1) = true := decide_eq_true c6
            clear c6
            by_cases c7 : x16_1 < (l0.length : Int)
            · rw [if_pos c7] at H
              have c7b0 : decide (x16_1 < (l0.length : Int)) = true := decide_eq_true c7
              clear c7
              obtain ⟨fr136_0, hfr136_0⟩ : ∃ y_ : Fl, y_ = ((rd_T34 l0 x16_1).f0) := ⟨_, rfl⟩
              replace H : (if 0 < (x4_1.length : Int) then (impl_FromRoots.l1 k1 x4_1 (([(⟨((rd_T34 x4_1 0).f0), ((rd_T34 x4_1 0).f1)⟩ : S34)] : List (S34))) 1 l0 (l0.length : Int) x16_1 fr136_0 ((rd_T34 l0 x16_1).f1)) else (none)) = some (r1, r2) := by first | (rw [hfr136_0]; with_reducible exact H) | (have H2_ := (Option.bind_some _ _).symm.trans H; rw [hfr136_0]; with_reducible exact H2_) | (have H2_ := (Option.bind_some _ _).symm.trans H; with_reducible exact H2_) | with_reducible exact H | (rw [hfr136_0]; exact H) | exact H
              have Nfr136_0 := Aside0.mk hfr136_0
              clear hfr136_0
              obtain ⟨fr136_1, hfr136_1⟩ : ∃ y_ : Fl, y_ = ((rd_T34 l0 x16_1).f1) := ⟨_, rfl⟩
              replace H : (if 0 < (x4_1.length : Int) then (impl_FromRoots.l1 k1 x4_1 (([(⟨((rd_T34 x4_1 0).f0), ((rd_T34 x4_1 0).f1)⟩ : S34)] : List (S34))) 1 l0 (l0.length : Int) x16_1 fr136_0 fr136_1) else (none)) = some (r1, r2) := by first | (rw [hfr136_1]; with_reducible exact H) | (have H2_ := (Option.bind_some _ _).symm.trans H; rw [hfr136_1]; with_reducible exact H2_) | (have H2_ := (Option.bind_some _ _).symm.trans H; with_reducible exact H2_) | with_reducible exact H | (rw [hfr136_1]; exact H) | exact H
              have Nfr136_1 := Aside0.mk hfr136_1
              clear hfr136_1
              by_cases c8 : 0 < (x4_1.length : Int)
              · rw [if_pos c8] at H
                have c8b0 : decide (0 < (x4_1.length : Int)) = true := decide_eq_true c8
                have c8b1 : decide (0 < x4_1.length) = true := decide_eq_true (by omega)
                clear c8
                obtain ⟨fr138_0, hfr138_0⟩ : ∃ y_ : Fl, y_ = ((rd_T34 x4_1 0).f0) := ⟨_, rfl⟩
                replace H : (impl_FromRoots.l1 k1 x4_1 (([(⟨fr138_0, ((rd_T34 x4_1 0).f1)⟩ : S34)] : List (S34))) 1 l0 (l0.length : Int) x16_1 fr136_0 fr136_1) = some (r1, r2) := by first | (rw [hfr138_0]; with_reducible exact H) | (have H2_ := (Option.bind_some _ _).symm.trans H; rw [hfr138_0]; with_reducible exact H2_) | (have H2_ := (Option.bind_some _ _).symm.trans H; with_reducible exact H2_) | with_reducible exact H | (rw [hfr138_0]; exact H) | exact H
                have Nfr138_0 := Aside0.mk hfr138_0
                clear hfr138_0
                obtain ⟨fr138_1, hfr138_1⟩ : ∃ y_ : Fl, y_ = ((rd_T34 x4_1 0).f1) := ⟨_, rfl⟩
                replace H : (impl_FromRoots.l1 k1 x4_1 (([(⟨fr138_0, fr138_1⟩ : S34)] : List (S34))) 1 l0 (l0.length : Int) x16_1 fr136_0 fr136_1) = some (r1, r2) := by first | (rw [hfr138_1]; with_reducible exact H) | (have H2_ := (Option.bind_some _ _).symm.trans H; rw [hfr138_1]; with_reducible exact H2_) | (have H2_ := (Option.bind_some _ _).symm.trans H; with_reducible exact H2_) | with_reducible exact H | (rw [hfr138_1]; exact H) | exact H
                have Nfr138_1 := Aside0.mk hfr138_1
                clear hfr138_1
                obtain ⟨y139, hy139⟩ : ∃ y_ : List (S34), y_ = (([(⟨fr138_0, fr138_1⟩ : S34)] : List (S34))) := ⟨_, rfl⟩
                replace H : (impl_FromRoots.l1 k1 x4_1 y139 1 l0 (l0.length : Int) x16_1 fr136_0 fr136_1) = some (r1, r2) := by first | (rw [hy139]; with_reducible exact H) | (have H2_ := (Option.bind_some _ _).symm.trans H; rw [hy139]; with_reducible exact H2_) | (have H2_ := (Option.bind_some _ _).symm.trans H; with_reducible exact H2_) | with_reducible exact H | (rw [hy139]; exact H) | exact H
                have Ny139 := Aside0.mk hy139
                clear hy139
                have H' := Aside0.mk H
                clear H
                have p136 : 0 ≤ (x16_1 : Int) := of_decide_eq_true (by first | (with_reducible assumption) | assumption)
                have q136 : x16_1 < (l0.length : Int) := of_decide_eq_true (by first | (with_reducible assumption) | assumption)
                obtain ⟨ad136, b_fr136_0, b_fr136_1, e136, hx136_0, hx136_1, hF136_0, hF136_1⟩ := at_T34 HR0.out x16_1 p136 q136
                have hF_fr136_0 := hF136_0.trans Nfr136_0.out.symm
                clear hF136_0
                have hF_fr136_1 := hF136_1.trans Nfr136_1.out.symm
                clear hF136_1
                cases e136
                replace hx136_0 := (HB.out.cell (World.block_lt_of_cell? w _ hx136_0)).trans hx136_0
                replace hx136_1 := (HB.out.cell (World.block_lt_of_cell? w _ hx136_1)).trans hx136_1
                replace p136 := eq_true p136
                replace q136 := eq_true q136
                go_wp2_with (first | ((with_reducible refine gate_dst (N := 6) rfl ?_); refine box_event ?hg (N := 6) ?hd (cs := #[.float .f64 0, .float .f64 0]) (t := 34) ?hr ?_; (case hd => rfl); (case hg => rfl); (case hr => first | (go_simp; done) | (go_simp; rfl)); intro gb137 hg w9 hbox hb; have n0_ := Aside0.mk (Kd.R_below (Kd.R_elderB (by exact HO_4.out) gb137 (Nat.le_of_eq hg.symm)) hb); have n1_ := Aside0.mk (below_step (by exact HB.out) hb); have n2_ := Aside0.mk (hbox); have n3_ := Aside0.mk ((by rw [hg]; exact (below_size (by exact HB.out)) : w.heap.size ≤ gb137)); have n4_ := Aside0.mk ((n3_.out)); clear HO_4; clear HB; have HO_4 := n0_; have HB := n1_; have BK137 := n2_; have GW137 := n3_; have GE137 := n4_; clear n0_ n1_ n2_ n3_ n4_; clear hb hbox hg; have hcz10_0 : w9.cell? ⟨gb137, 0, none⟩ = some (.float .f64 0) := (blk_cell BK137.out 0).trans rfl; have hcz10_1 : w9.cell? ⟨gb137, 1, none⟩ = some (.float .f64 0) := (blk_cell BK137.out 1).trans rfl; have hfz10_0 := blk_frozen BK137.out 0; have hfz10_1 := blk_frozen BK137.out 1; obtain ⟨Ao11, co11, eo11⟩ := Kd.R_slice HO_4.out; subst eo11; have p138 : 0 ≤ (0 : Int) := (by omega); have q138 : 0 < (x4_1.length : Int) := of_decide_eq_true (by first | (with_reducible assumption) | assumption); obtain ⟨ad138, b_fr138_0, b_fr138_1, e138, hx138_0, hx138_1, hF138_0, hF138_1⟩ := at_T34 (Kd.R_reads' HO_4.out).2.2 0 p138 q138; have hF_fr138_0 := hF138_0.trans Nfr138_0.out.symm; clear hF138_0; have hF_fr138_1 := hF138_1.trans Nfr138_1.out.symm; clear hF138_1; cases e138; have qi138 : (0 < x4_1.length) = True := eq_true (by omega); (try rw [show ((0 : Int)).toNat = 0 from rfl] at hx138_0); (try rw [show 0 * 2 = 0 from rfl] at hx138_0); (try rw [Addr.add_zero'] at hx138_0); (try rw [show ((0 : Int)).toNat = 0 from rfl] at hx138_1); (try rw [show 0 * 2 = 0 from rfl] at hx138_1); (try rw [Addr.add_zero'] at hx138_1); have hn138_0 : ad138.block ≠ gb137 := Kd.own_blk (Kd.R_away HO_4.out (fun _ hk => hk.2)); have hn138_1 : ad138.block ≠ gb137 := Kd.own_blk (Kd.R_away HO_4.out (fun _ hk => hk.2)); replace hx138_0 := (cell_far (p := ⟨gb137, 0, none⟩) (by first | (rw [add_block]; exact hn138_0) | (show (Addr.add _ _).block ≠ _; rw [add_block]; exact hn138_0) | exact hn138_0) (.float .f64 b_fr136_0)).trans hx138_0; replace hx138_1 := (cell_far (p := ⟨gb137, 0, none⟩) (by first | (rw [add_block]; exact hn138_0) | (show (Addr.add _ _).block ≠ _; rw [add_block]; exact hn138_0) | exact hn138_0) (.float .f64 b_fr136_0)).trans hx138_1; replace hx138_0 := (cell_far (p := ⟨gb137, 1, none⟩) (by first | (rw [add_block]; exact hn138_1) | (show (Addr.add _ _).block ≠ _; rw [add_block]; exact hn138_1) | exact hn138_1) (.float .f64 b_fr136_1)).trans hx138_0; replace hx138_1 := (cell_far (p := ⟨gb137, 1, none⟩) (by first | (rw [add_block]; exact hn138_1) | (show (Addr.add _ _).block ≠ _; rw [add_block]; exact hn138_1) | exact hn138_1) (.float .f64 b_fr136_1)).trans hx138_1; clear hn138_0; clear hn138_1; replace p138 := eq_true p138; replace q138 := eq_true q138) | ((with_reducible refine gate_dst (N := 23) rfl ?_); refine Kd.R_lit k34 _ 34 ?hg (N := 23) ?hd (xs := ([(⟨fr138_0, fr138_1⟩ : S34)] : List (S34))) (inner := [.float .f64 b_fr138_0, .float .f64 b_fr138_1]) (ok := fun _ => True) (okp := fun _ => True) ?hr ?hp (fun _ hk => hk) trivial (Below.refl _ _) (Nat.le_refl _) (by simp) ?_; (case hd => rfl); (case hg => rfl); (case hr => first | (go_simp; done) | (go_simp; rfl)); (case hp => exact (Reps.c2 (show Kd.M k34 _ _ _ (⟨fr138_0, fr138_1⟩ : S34) [.float .f64 b_fr138_0, .float .f64 b_fr138_1] from (k34_mkM _ _ _ (⟨fr138_0, fr138_1⟩ : S34) hF_fr138_0 hF_fr138_1)) (Reps.none _ _))); intro v140 w12 ho13 hb hg_ hnew_; clear hg_ hnew_; (first | rw [← Ny139.out] at ho13 | (simp only [Int.reduceToNat] at ho13; rw [← Ny139.out] at ho13)); have n0_ := Aside0.mk (Kd.R_elder' (by (with_reducible repeat (first | apply Kd.R_alloc | apply Kd.R_drewN | apply Kd.R_drew)); exact (Kd.R_mono (Kd.R_far (p := ⟨gb137, 1, none⟩) (Kd.R_far (p := ⟨gb137, 0, none⟩) (Kd.R_mono HO_4.out (fun k_ hk => (⟨hk, hk.2⟩ : _ ∧ k_ ≠ gb137))) (fun _ hk => hk.2) (.float .f64 b_fr136_0)) (fun _ hk => hk.2) (.float .f64 b_fr136_1)) (fun _ h_ => h_.1))) (Kd.R_base ho13) hb); have n1_ := Aside0.mk (Kd.R_lower (Kd.R_newB (Kd.R_new' ho13 (Kd.R_lt (by (with_reducible repeat (first | apply Kd.R_alloc | apply Kd.R_drewN | apply Kd.R_drew)); exact (Kd.R_mono (Kd.R_far (p := ⟨gb137, 1, none⟩) (Kd.R_far (p := ⟨gb137, 0, none⟩) (Kd.R_mono HO_4.out (fun k_ hk => (⟨hk, hk.2⟩ : _ ∧ k_ ≠ gb137))) (fun _ hk => hk.2) (.float .f64 b_fr136_0)) (fun _ hk => hk.2) (.float .f64 b_fr136_1)) (fun _ h_ => h_.1))))) (g := gb137) (o := .cells #[.float .f64 b_fr136_0, .float .f64 b_fr136_1] 34 (0, 0)) (by (with_reducible repeat (first | refine blk_drewN ?_ _ | refine blk_drew ?_ | refine blk_alloc ?_ _)); refine blk_put (cs := #[.float .f64 b_fr136_0, .float .f64 0]) ?_ 1 _ rfl; (with_reducible repeat (first | refine blk_drewN ?_ _ | refine blk_drew ?_ | refine blk_alloc ?_ _)); refine blk_put (cs := #[.float .f64 0, .float .f64 0]) ?_ 0 _ rfl; (with_reducible repeat (first | refine blk_drewN ?_ _ | refine blk_drew ?_ | refine blk_alloc ?_ _)); exact BK137.out)) (below_size (by repeat (first | (with_reducible first | exact HB.out | apply below_alloc | apply pw_below_drewN | apply below_drew1 | refine below_set ?_ GE137.out) | exact HB.out)))); have n2_ := Aside0.mk (blk_below (g := gb137) (o := .cells #[.float .f64 b_fr136_0, .float .f64 b_fr136_1] 34 (0, 0)) (by (with_reducible repeat (first | refine blk_drewN ?_ _ | refine blk_drew ?_ | refine blk_alloc ?_ _)); refine blk_put (cs := #[.float .f64 b_fr136_0, .float .f64 0]) ?_ 1 _ rfl; (with_reducible repeat (first | refine blk_drewN ?_ _ | refine blk_drew ?_ | refine blk_alloc ?_ _)); refine blk_put (cs := #[.float .f64 0, .float .f64 0]) ?_ 0 _ rfl; (with_reducible repeat (first | refine blk_drewN ?_ _ | refine blk_drew ?_ | refine blk_alloc ?_ _)); exact BK137.out) hb); have n3_ := Aside0.mk (below_step (by repeat (first | (with_reducible first | exact HB.out | apply below_alloc | apply pw_below_drewN | apply below_drew1 | refine below_set ?_ GE137.out) | exact HB.out)) hb); clear HO_4; clear BK137; clear HB; have HO_4 := n0_; have HO141 := n1_; have BK137 := n2_; have HB := n3_; clear n0_ n1_ n2_ n3_; clear hb ho13))
                go_loopg [7, 8] k1 (fun kq v7 v8 w' => ∃ (x7_2 : List (S34)) (x8_2 : Int), v8 = .int .i64 x8_2 ∧ Aside0 (impl_FromRoots.l1 kq x4_1 x7_2 x8_2 l0 (l0.length : Int) x16_1 fr136_0 fr136_1 = some (r1, r2)) ∧ Aside0 (kq ≤ k1) ∧ Aside0 (Kd.R k34 34 w' w.heap.size (fun k_ => some k_ ≠ (v7 : Value).ownBlock ∧ k_ ≠ gb137) (.slice (some ad138) x4_1.length co11) x4_1) ∧ Aside0 (Kd.R k34 34 w' w.heap.size (fun k_ => some k_ ≠ ((.slice (some ad138) x4_1.length co11) : Value).ownBlock ∧ k_ ≠ gb137) v7 x7_2) ∧ Aside0 (w'.heap[gb137]? = some (.cells #[.float .f64 b_fr136_0, .float .f64 b_fr136_1] 34 (0, 0))) ∧ Aside0 (Below w.heap.size w w'))
                case atStart => exact ⟨(y139), (1), (by first | rfl | (simp; done) | (simp [*]; done)), H', ⟨Nat.le_refl _⟩, ⟨by (with_reducible repeat (first | apply Kd.R_alloc | apply Kd.R_drewN | apply Kd.R_drew)); exact Kd.R_mono HO_4.out (fun _ hk => ⟨hk.2, hk.1.2⟩)⟩, ⟨by (with_reducible repeat (first | apply Kd.R_alloc | apply Kd.R_drewN | apply Kd.R_drew)); exact Kd.R_mono HO141.out (fun _ hk => ⟨hk.1.2, hk.2⟩)⟩, ⟨by (with_reducible repeat (first | refine blk_drewN ?_ _ | refine blk_drew ?_ | refine blk_alloc ?_ _)); exact BK137.out⟩, ⟨by repeat (first | (with_reducible first | exact HB.out | apply below_alloc | apply pw_below_drewN | apply below_drew1) | exact HB.out)⟩⟩
                case round =>
                  clear H'
                  try clear p1
                  try clear q1
                  try clear hx1
                  try clear qi1
                  try clear c2
                  try clear c2b0
                  try clear c2b1
                  try clear p2
                  try clear c3
                  try clear c5
                  try clear c5b0
                  try clear c6
                  try clear c6b0
                  try clear c7
                  try clear c7b0
                  try clear c8
                  try clear c8b0
                  try clear c8b1
                  try clear p13
                  try clear q13
                  try clear hx13
                  try clear qi13
                  try clear hcz10_0
                  try clear hcz10_1
                  try clear hfz10_0
                  try clear hfz10_1
                  try clear hx136_0
                  try clear hx136_1
                  try clear hx138_0
                  try clear hx138_1
                  try clear p136
                  try clear p138
                  try clear p2
                  try clear q136
                  try clear q138
                  obtain ⟨x7_2, x8_2, rfl, HA, HK2, HO_4, HO_7, BK137, HB⟩ := hrel
                  cases gk with
                  | zero => exact absurd HA.out (by simp [impl_FromRoots.l1])
                  | succ k2 =>
                    have H := HA.out
                    clear HA
                    simp only [impl_FromRoots.l1] at H
                    by_cases c14 : x8_2 < (x4_1.length : Int)
                    · rw [if_pos c14] at H
                      have c14b0 : decide (x8_2 < (x4_1.length : Int)) = true := decide_eq_true c14
                      clear c14
                      by_cases c15 : 0 ≤ x8_2
                      · rw [if_pos c15] at H
                        have c15b0 : decide (0 ≤ x8_2) = true := decide_eq_true c15
                        clear c15
                        obtain ⟨fr142_0, hfr142_0⟩ : ∃ y_ : Fl, y_ = ((rd_T34 x4_1 x8_2).f0) := ⟨_, rfl⟩
                        replace H : (if 0 ≤ (wrap64 (x8_2 - 1)) then (if (wrap64 (x8_2 - 1)) < (x4_1.length : Int) then ((impl_CxTimes.f ((rd_T34 x4_1 (wrap64 (x8_2 - 1))).f0) ((rd_T34 x4_1 (wrap64 (x8_2 - 1))).f1) fr136_0 fr136_1).bind fun bt144 => ((impl_CxLess.f fr142_0 ((rd_T34 x4_1 x8_2).f1) bt144.1 bt144.2).bind fun bt146 => (if x7_2.length < 8796093022208 then (impl_FromRoots.l1 k2 x4_1 (x7_2 ++ [(⟨bt146.1, bt146.2⟩ : S34)]) (wrap64 (x8_2 + 1)) l0 (l0.length : Int) x16_1 fr136_0 fr136_1) else (none)))) else (none)) else (none)) = some (r1, r2) := by first | (rw [hfr142_0]; with_reducible exact H) | (have H2_ := (Option.bind_some _ _).symm.trans H; rw [hfr142_0]; with_reducible exact H2_) | (have H2_ := (Option.bind_some _ _).symm.trans H; with_reducible exact H2_) | with_reducible exact H | (rw [hfr142_0]; exact H) | exact H
                        have Nfr142_0 := Aside0.mk hfr142_0
                        clear hfr142_0
                        obtain ⟨fr142_1, hfr142_1⟩ : ∃ y_ : Fl, y_ = ((rd_T34 x4_1 x8_2).f1) := ⟨_, rfl⟩
                        replace H : (if 0 ≤ (wrap64 (x8_2 - 1)) then (if (wrap64 (x8_2 - 1)) < (x4_1.length : Int) then ((impl_CxTimes.f ((rd_T34 x4_1 (wrap64 (x8_2 - 1))).f0) ((rd_T34 x4_1 (wrap64 (x8_2 - 1))).f1) fr136_0 fr136_1).bind fun bt144 => ((impl_CxLess.f fr142_0 fr142_1 bt144.1 bt144.2).bind fun bt146 => (if x7_2.length < 8796093022208 then (impl_FromRoots.l1 k2 x4_1 (x7_2 ++ [(⟨bt146.1, bt146.2⟩ : S34)]) (wrap64 (x8_2 + 1)) l0 (l0.length : Int) x16_1 fr136_0 fr136_1) else (none)))) else (none)) else (none)) = some (r1, r2) := by first | (rw [hfr142_1]; with_reducible exact H) | (have H2_ := (Option.bind_some _ _).symm.trans H; rw [hfr142_1]; with_reducible exact H2_) | (have H2_ := (Option.bind_some _ _).symm.trans H; with_reducible exact H2_) | with_reducible exact H | (rw [hfr142_1]; exact H) | exact H
                        have Nfr142_1 := Aside0.mk hfr142_1
                        clear hfr142_1
                        obtain ⟨ji16, hji16⟩ : ∃ j_ : Int, (wrap64 (x8_2 - 1)) = j_ := ⟨_, rfl⟩
                        replace H : (if 0 ≤ (ji16) then (if (ji16) < (x4_1.length : Int) then ((impl_CxTimes.f ((rd_T34 x4_1 (ji16)).f0) ((rd_T34 x4_1 (ji16)).f1) fr136_0 fr136_1).bind fun bt144 => ((impl_CxLess.f fr142_0 fr142_1 bt144.1 bt144.2).bind fun bt146 => (if x7_2.length < 8796093022208 then (impl_FromRoots.l1 k2 x4_1 (x7_2 ++ [(⟨bt146.1, bt146.2⟩ : S34)]) (wrap64 (x8_2 + 1)) l0 (l0.length : Int) x16_1 fr136_0 fr136_1) else (none)))) else (none)) else (none)) = some (r1, r2) := by first | (rw [hji16] at H; exact H) | (simp only [hji16] at H ⊢; exact H)
                        have hji16w : (IntKind.i64.wrap (x8_2 - 1)) = ji16 := (i64_w _).trans hji16
                        by_cases c17 : 0 ≤ (ji16)
                        · rw [if_pos c17] at H
                          have c17b0 : decide (0 ≤ (ji16)) = true := decide_eq_true c17
                          clear c17
                          by_cases c18 : (ji16) < (x4_1.length : Int)
                          · rw [if_pos c18] at H
                            have c18b0 : decide ((ji16) < (x4_1.length : Int)) = true := decide_eq_true c18
                            clear c18
                            obtain ⟨fr143_0, hfr143_0⟩ : ∃ y_ : Fl, y_ = ((rd_T34 x4_1 (ji16)).f0) := ⟨_, rfl⟩
                            replace H : ((impl_CxTimes.f fr143_0 ((rd_T34 x4_1 (ji16)).f1) fr136_0 fr136_1).bind fun bt144 => ((impl_CxLess.f fr142_0 fr142_1 bt144.1 bt144.2).bind fun bt146 => (if x7_2.length < 8796093022208 then (impl_FromRoots.l1 k2 x4_1 (x7_2 ++ [(⟨bt146.1, bt146.2⟩ : S34)]) (wrap64 (x8_2 + 1)) l0 (l0.length : Int) x16_1 fr136_0 fr136_1) else (none)))) = some (r1, r2) := by first | (rw [hfr143_0]; with_reducible exact H) | (have H2_ := (Option.bind_some _ _).symm.trans H; rw [hfr143_0]; with_reducible exact H2_) | (have H2_ := (Option.bind_some _ _).symm.trans H; with_reducible exact H2_) | with_reducible exact H | (rw [hfr143_0]; exact H) | exact H
                            have Nfr143_0 := Aside0.mk hfr143_0
                            clear hfr143_0
                            obtain ⟨fr143_1, hfr143_1⟩ : ∃ y_ : Fl, y_ = ((rd_T34 x4_1 (ji16)).f1) := ⟨_, rfl⟩
                            replace H : ((impl_CxTimes.f fr143_0 fr143_1 fr136_0 fr136_1).bind fun bt144 => ((impl_CxLess.f fr142_0 fr142_1 bt144.1 bt144.2).bind fun bt146 => (if x7_2.length < 8796093022208 then (impl_FromRoots.l1 k2 x4_1 (x7_2 ++ [(⟨bt146.1, bt146.2⟩ : S34)]) (wrap64 (x8_2 + 1)) l0 (l0.length : Int) x16_1 fr136_0 fr136_1) else (none)))) = some (r1, r2) := by first | (rw [hfr143_1]; with_reducible exact H) | (have H2_ := (Option.bind_some _ _).symm.trans H; rw [hfr143_1]; with_reducible exact H2_) | (have H2_ := (Option.bind_some _ _).symm.trans H; with_reducible exact H2_) | with_reducible exact H | (rw [hfr143_1]; exact H) | exact H
                            have Nfr143_1 := Aside0.mk hfr143_1
                            clear hfr143_1
                            replace H := Option.bind_eq_some_iff.mp H
                            obtain ⟨⟨t144, t145⟩, A190, H⟩ := H
                            replace H : ((impl_CxLess.f fr142_0 fr142_1 t144 t145).bind fun bt146 => (if x7_2.length < 8796093022208 then (impl_FromRoots.l1 k2 x4_1 (x7_2 ++ [(⟨bt146.1, bt146.2⟩ : S34)]) (wrap64 (x8_2 + 1)) l0 (l0.length : Int) x16_1 fr136_0 fr136_1) else (none))) = some (r1, r2) := H
                            have A19 := Aside0.mk A190
                            clear A190
                            replace H := Option.bind_eq_some_iff.mp H
                            obtain ⟨⟨t146, t147⟩, A200, H⟩ := H
                            replace H : (if x7_2.length < 8796093022208 then (impl_FromRoots.l1 k2 x4_1 (x7_2 ++ [(⟨t146, t147⟩ : S34)]) (wrap64 (x8_2 + 1)) l0 (l0.length : Int) x16_1 fr136_0 fr136_1) else (none)) = some (r1, r2) := H
                            have A20 := Aside0.mk A200
                            clear A200
                            by_cases c21 : x7_2.length < 8796093022208
                            · rw [if_pos c21] at H
                              have LMc21 := Aside0.mk c21
                              clear c21
                              obtain ⟨y148, hy148⟩ : ∃ y_ : List (S34), y_ = (x7_2 ++ [(⟨t146, t147⟩ : S34)]) := ⟨_, rfl⟩
                              replace H : (impl_FromRoots.l1 k2 x4_1 y148 (wrap64 (x8_2 + 1)) l0 (l0.length : Int) x16_1 fr136_0 fr136_1) = some (r1, r2) := by first | (rw [hy148]; with_reducible exact H) | (have H2_ := (Option.bind_some _ _).symm.trans H; rw [hy148]; with_reducible exact H2_) | (have H2_ := (Option.bind_some _ _).symm.trans H; with_reducible exact H2_) | with_reducible exact H | (rw [hy148]; exact H) | exact H
                              have Ny148 := Aside0.mk hy148
                              clear hy148
                              have H' := Aside0.mk H
                              clear H
                              try go_wp2
                              have n0_ := Aside0.mk (Kd.R_drew HO_4.out)
                              have n1_ := Aside0.mk (Kd.R_drew HO_7.out)
                              have n2_ := Aside0.mk (blk_drew BK137.out)
                              have n3_ := Aside0.mk (below_drew1 HB.out)
                              clear HO_4
                              clear HO_7
                              clear BK137
                              clear HB
                              have HO_4 := n0_
                              have HO_7 := n1_
                              have BK137 := n2_
                              have HB := n3_
                              clear n0_ n1_ n2_ n3_
                              have p142 : 0 ≤ (x8_2 : Int) := of_decide_eq_true (by first | (with_reducible assumption) | assumption)
                              have q142 : x8_2 < (x4_1.length : Int) := of_decide_eq_true (by first | (with_reducible assumption) | assumption)
                              obtain ⟨ad142, b_fr142_0, b_fr142_1, e142, hx142_0, hx142_1, hF142_0, hF142_1⟩ := at_T34 (Kd.R_reads' HO_4.out).2.2 x8_2 p142 q142
                              have hF_fr142_0 := hF142_0.trans Nfr142_0.out.symm
                              clear hF142_0
                              have hF_fr142_1 := hF142_1.trans Nfr142_1.out.symm
                              clear hF142_1
                              obtain rfl : ad138 = ad142 := (by injection e142)
                              replace p142 := eq_true p142
                              replace q142 := eq_true q142
                              have p143 : 0 ≤ ((ji16) : Int) := of_decide_eq_true (by first | (with_reducible assumption) | assumption)
                              have q143 : (ji16) < (x4_1.length : Int) := of_decide_eq_true (by first | (with_reducible assumption) | assumption)
                              obtain ⟨ad143, b_fr143_0, b_fr143_1, e143, hx143_0, hx143_1, hF143_0, hF143_1⟩ := at_T34 (Kd.R_reads' HO_4.out).2.2 (ji16) p143 q143
                              have hF_fr143_0 := hF143_0.trans Nfr143_0.out.symm
                              clear hF143_0
                              have hF_fr143_1 := hF143_1.trans Nfr143_1.out.symm
                              clear hF143_1
                              obtain rfl : ad138 = ad143 := (by injection e143)
                              replace p143 := eq_true p143
                              replace q143 := eq_true q143
                              refine start_ (n := 16) (S := fun w' => w'.cell? ⟨gb137, 0, none⟩ = some (.float .f64 b_fr136_0) ∧ w'.cell? ⟨gb137, 1, none⟩ = some (.float .f64 b_fr136_1) ∧ w'.cell? (ad138.add ((x8_2).toNat * 2)) = some (.float .f64 b_fr142_0) ∧ w'.cell? ⟨(ad138.add ((x8_2).toNat * 2)).block, (ad138.add ((x8_2).toNat * 2)).off + 1, none⟩ = some (.float .f64 b_fr142_1) ∧ w'.cell? (ad138.add (((ji16)).toNat * 2)) = some (.float .f64 b_fr143_0) ∧ w'.cell? ⟨(ad138.add (((ji16)).toNat * 2)).block, (ad138.add (((ji16)).toNat * 2)).off + 1, none⟩ = some (.float .f64 b_fr143_1)) (ds := [13, 14]) #[false, false, false, false, false, false, false, false, false, false, false, false, false, false, false, false] (by kernel_rfl) rfl rfl ⟨(blk_cell BK137.out 0).trans rfl, (blk_cell BK137.out 1).trans rfl, hx142_0, hx142_1, hx143_0, hx143_1⟩ (fun hHeld => ?_); refine with_tabW impl_FromRoots.tab11 impl_FromRoots.bits11 (fun HT_ HW_ => ?_)
                              generalize wr.drew = w22 at HO_4 HO_7 BK137 HB hx142_0 hx142_1 hx143_0 hx143_1 hHeld ⊢
                              refine pure_ (i := 0) (N := some 30) (v := ?_) (a' := ?_) #[true, false, false, false, false, false, false, false, false, false, false, false, false, false, false, false] rfl rfl (any_of HT_.out (by kernel_rfl)) (fun _ _ _ h => h) (Or.inl ⟨by rfl, ?_⟩) ?_ ?_
                              rotate_left
                              · intro w'
                                go_simp
                                with_reducible rfl
                              rotate_left
                              · simp only [Act.put, List.setIfInBounds_toArray, List.set_cons_zero, List.set_cons_succ, i64_w, i32_w]
                                rfl
                              refine pure_ (i := 1) (N := some 31) (v := ?_) (a' := ?_) #[true, true, false, false, false, false, false, false, false, false, false, false, false, false, false, false] rfl rfl (any_of HT_.out (by kernel_rfl)) (fun _ _ _ h => h) (Or.inl ⟨by rfl, ?_⟩) ?_ ?_
                              rotate_left
                              · intro w'
                                go_simp
                                with_reducible rfl
                              rotate_left
                              · simp only [Act.put, List.setIfInBounds_toArray, List.set_cons_zero, List.set_cons_succ, i64_w, i32_w]
                                rfl
                              refine pure_ (i := 2) (N := some 32) (v := ?_) (a' := ?_) #[true, true, true, false, false, false, false, false, false, false, false, false, false, false, false, false] rfl rfl (any_of HT_.out (by kernel_rfl)) (fun _ _ _ h => h) (Or.inl ⟨by rfl, ?_⟩) ?_ ?_
                              rotate_left
                              · intro w'
                                go_simp
                                with_reducible rfl
                              rotate_left
                              · simp only [Act.put, List.setIfInBounds_toArray, List.set_cons_zero, List.set_cons_succ, i64_w, i32_w]
                                rfl
                              refine pure_ (i := 3) (N := some 33) (v := ?_) (a' := ?_) #[true, true, true, true, false, false, false, false, false, false, false, false, false, false, false, false] rfl rfl (any_of HT_.out (by kernel_rfl)) (fun _ _ _ h => h) (Or.inl ⟨by rfl, ?_⟩) ?_ ?_
                              rotate_left
                              · intro w'
                                go_simp
                                with_reducible rfl
                              rotate_left
                              · simp only [Act.put, List.setIfInBounds_toArray, List.set_cons_zero, List.set_cons_succ, i64_w, i32_w]
                                rfl
                              refine pure_ (i := 5) (N := some 35) (v := ?_) (a' := ?_) #[true, true, true, true, false, true, false, false, false, false, false, false, false, false, false, false] rfl rfl (any_of HT_.out (by kernel_rfl)) (fun _ _ _ h => h) (Or.inl ⟨by rfl, ?_⟩) ?_ ?_
                              rotate_left
                              · intro w'
                                go_simp
                                with_reducible rfl
                              rotate_left
                              · simp only [Act.put, List.setIfInBounds_toArray, List.set_cons_zero, List.set_cons_succ, i64_w, i32_w]
                                rfl
                              refine pure_ (i := 6) (N := some 36) (v := ?_) (a' := ?_) #[true, true, true, true, false, true, true, false, false, false, false, false, false, false, false, false] rfl rfl (any_of HT_.out (by kernel_rfl)) (fun _ _ _ h => h) (Or.inl ⟨by rfl, ?_⟩) ?_ ?_
                              rotate_left
                              · intro w'
                                go_simp
                                with_reducible rfl
                              rotate_left
                              · simp only [Act.put, List.setIfInBounds_toArray, List.set_cons_zero, List.set_cons_succ, i64_w, i32_w]
                                rfl
                              refine pure_ (i := 7) (N := some 37) (v := ?_) (a' := ?_) #[true, true, true, true, false, true, true, true, false, false, false, false, false, false, false, false] rfl rfl (any_of HT_.out (by kernel_rfl)) (fun _ _ _ h => h) (Or.inl ⟨by rfl, ?_⟩) ?_ ?_
                              rotate_left
                              · intro w'
                                go_simp
                                with_reducible rfl
                              rotate_left
                              · simp only [Act.put, List.setIfInBounds_toArray, List.set_cons_zero, List.set_cons_succ, i64_w, i32_w]
                                rfl
                              refine pure_ (i := 8) (N := some 38) (v := ?_) (a' := ?_) #[true, true, true, true, false, true, true, true, true, false, false, false, false, false, false, false] rfl rfl (any_of HT_.out (by kernel_rfl)) (fun _ _ _ h => h) (Or.inl ⟨by rfl, ?_⟩) ?_ ?_
                              rotate_left
                              · intro w'
                                go_simp
                                with_reducible rfl
                              rotate_left
                              · simp only [Act.put, List.setIfInBounds_toArray, List.set_cons_zero, List.set_cons_succ, i64_w, i32_w]
                                rfl
                              refine take_ (i := 4) (N := some 34) (v := ?_) (a' := ?_) #[true, true, true, true, true, true, true, true, true, false, false, false, false, false, false, false] rfl rfl (take_ofW HT_.out HW_.out (by kernel_rfl)) (fun _ _ _ h => h) (Or.inl ⟨by rfl, ?_⟩) hHeld ?_ ?_
                              rotate_left
                              · rintro w' ⟨s0, s1, s2, s3, s4, s5⟩
                                go_simp
                                with_reducible rfl
                              rotate_left
                              · simp only [Act.put, List.setIfInBounds_toArray, List.set_cons_zero, List.set_cons_succ, i64_w, i32_w]
                                rfl
                              refine take_ (i := 9) (N := some 39) (v := ?_) (a' := ?_) #[true, true, true, true, true, true, true, true, true, true, false, false, false, false, false, false] rfl rfl (take_ofW HT_.out HW_.out (by kernel_rfl)) (fun _ _ _ h => h) (Or.inl ⟨by rfl, ?_⟩) hHeld ?_ ?_
                              rotate_left
                              · rintro w' ⟨s0, s1, s2, s3, s4, s5⟩
                                go_simp
                                with_reducible rfl
                              rotate_left
                              · simp only [Act.put, List.setIfInBounds_toArray, List.set_cons_zero, List.set_cons_succ, i64_w, i32_w]
                                rfl
                              refine take_ (i := 10) (N := some 40) (v := ?_) (a' := ?_) #[true, true, true, true, true, true, true, true, true, true, true, false, false, false, false, false] rfl rfl (take_ofW HT_.out HW_.out (by kernel_rfl)) (fun _ _ _ h => h) (Or.inl ⟨by rfl, ?_⟩) hHeld ?_ ?_
                              rotate_left
                              · rintro w' ⟨s0, s1, s2, s3, s4, s5⟩
                                go_simp
                                with_reducible rfl
                              rotate_left
                              · simp only [Act.put, List.setIfInBounds_toArray, List.set_cons_zero, List.set_cons_succ, i64_w, i32_w]
                                rfl
                              refine one_ (i := 11) (N := some 41) #[true, true, true, true, true, true, true, true, true, true, true, true, false, false, false, false] rfl rfl (one_of HT_.out (by kernel_rfl)) (by decide) (fun K hK => ?_)
                              refine goes_ Try.func51 (by kernel_rfl) rfl #[.agg #[.float .f64 b_fr143_0, .float .f64 b_fr143_1], .agg #[.float .f64 b_fr136_0, .float .f64 b_fr136_1]] (by rfl) rfl rfl (by (try simp only [List.map_toArray, List.map_cons, List.map_nil]); first | done | rfl | (simp only [List.length_drop, List.length_take]; rfl)) ?_
                              with_reducible refine (impl_CxTimes.calls b_fr143_0 fr143_0 b_fr143_1 fr143_1 b_fr136_0 fr136_0 b_fr136_1 fr136_1 t144 t145 _ ?side1 ?side2 ?side3 ?side4 A19.out).mono ?_
                              (case side1 => exact hF_fr143_0)
                              (case side2 => exact hF_fr143_1)
                              (case side3 => exact hF_fr136_0)
                              (case side4 => exact hF_fr136_1)
                              rintro e w23 ⟨b_t144, b_t145, rfl, hF_t144, hF_t145, hb⟩
                              have HS2_ := (hb.cell (World.block_lt_of_cell? _ _ (hHeld.2.2.1))).trans (hHeld.2.2.1)
                              have HS3_ := (hb.cell (World.block_lt_of_cell? _ _ (hHeld.2.2.2.1))).trans (hHeld.2.2.2.1)
                              have HS4_ := (hb.cell (World.block_lt_of_cell? _ _ (hHeld.2.2.2.2.1))).trans (hHeld.2.2.2.2.1)
                              have HS5_ := (hb.cell (World.block_lt_of_cell? _ _ (hHeld.2.2.2.2.2))).trans (hHeld.2.2.2.2.2)
                              refine ⟨_, rfl, ?_⟩
                              have n0_ := Aside0.mk (Kd.R_below (by (with_reducible repeat (first | apply Kd.R_alloc | apply Kd.R_drewN | apply Kd.R_drew)); exact HO_4.out) hb)
                              have n1_ := Aside0.mk (Kd.R_below (by (with_reducible repeat (first | apply Kd.R_alloc | apply Kd.R_drewN | apply Kd.R_drew)); exact HO_7.out) hb)
                              have n2_ := Aside0.mk (blk_below (g := gb137) (o := .cells #[.float .f64 b_fr136_0, .float .f64 b_fr136_1] 34 (0, 0)) (by (with_reducible repeat (first | refine blk_drewN ?_ _ | refine blk_drew ?_ | refine blk_alloc ?_ _)); exact BK137.out) hb)
                              have n3_ := Aside0.mk (below_step (by repeat (first | (with_reducible first | exact HB.out | apply below_alloc | apply pw_below_drewN | apply below_drew1) | exact HB.out)) hb)
                              clear HO_4
                              clear HO_7
                              clear BK137
                              clear HB
                              have HO_4 := n0_
                              have HO_7 := n1_
                              have BK137 := n2_
                              have HB := n3_
                              clear n0_ n1_ n2_ n3_
                              (try clear hb)
                              (try clear hb2)
                              (try clear hk)
                              (try clear hi)
                              refine hK.out _ _ ⟨(blk_cell BK137.out 0).trans rfl, (blk_cell BK137.out 1).trans rfl, HS2_, HS3_, HS4_, HS5_⟩ (fun hHeld => ?_)
                              clear hK K
                              refine norm_ (a' := ?_) ?_ ?_
                              rotate_left
                              · show Act.put _ (some 41) _ = _
                                simp only [Act.put, List.setIfInBounds_toArray, List.set_cons_zero, List.set_cons_succ, i64_w, i32_w]
                                rfl
                              refine one_ (i := 12) (N := some 42) #[true, true, true, true, true, true, true, true, true, true, true, true, true, false, false, false] rfl rfl (one_of HT_.out (by kernel_rfl)) (by decide) (fun K hK => ?_)
                              refine goes_ Try.func54 (by kernel_rfl) rfl #[.agg #[.float .f64 b_fr142_0, .float .f64 b_fr142_1], .agg #[.float .f64 b_t144, .float .f64 b_t145]] (by rfl) rfl rfl (by (try simp only [List.map_toArray, List.map_cons, List.map_nil]); first | done | rfl | (simp only [List.length_drop, List.length_take]; rfl)) ?_
                              with_reducible refine (impl_CxLess.calls b_fr142_0 fr142_0 b_fr142_1 fr142_1 b_t144 t144 b_t145 t145 t146 t147 _ ?side1 ?side2 ?side3 ?side4 A20.out).mono ?_
                              (case side1 => exact hF_fr142_0)
                              (case side2 => exact hF_fr142_1)
                              (case side3 => exact hF_t144)
                              (case side4 => exact hF_t145)
                              rintro e w24 ⟨b_t146, b_t147, rfl, hF_t146, hF_t147, hb⟩
                              have HS2_ := (hb.cell (World.block_lt_of_cell? _ _ (hHeld.2.2.1))).trans (hHeld.2.2.1)
                              have HS3_ := (hb.cell (World.block_lt_of_cell? _ _ (hHeld.2.2.2.1))).trans (hHeld.2.2.2.1)
                              have HS4_ := (hb.cell (World.block_lt_of_cell? _ _ (hHeld.2.2.2.2.1))).trans (hHeld.2.2.2.2.1)
                              have HS5_ := (hb.cell (World.block_lt_of_cell? _ _ (hHeld.2.2.2.2.2))).trans (hHeld.2.2.2.2.2)
                              refine ⟨_, rfl, ?_⟩
                              have n0_ := Aside0.mk (Kd.R_below (by (with_reducible repeat (first | apply Kd.R_alloc | apply Kd.R_drewN | apply Kd.R_drew)); exact HO_4.out) hb)
                              have n1_ := Aside0.mk (Kd.R_below (by (with_reducible repeat (first | apply Kd.R_alloc | apply Kd.R_drewN | apply Kd.R_drew)); exact HO_7.out) hb)
                              have n2_ := Aside0.mk (blk_below (g := gb137) (o := .cells #[.float .f64 b_fr136_0, .float .f64 b_fr136_1] 34 (0, 0)) (by (with_reducible repeat (first | refine blk_drewN ?_ _ | refine blk_drew ?_ | refine blk_alloc ?_ _)); exact BK137.out) hb)
                              have n3_ := Aside0.mk (below_step (by repeat (first | (with_reducible first | exact HB.out | apply below_alloc | apply pw_below_drewN | apply below_drew1) | exact HB.out)) hb)
                              clear HO_4
                              clear HO_7
                              clear BK137
                              clear HB
                              have HO_4 := n0_
                              have HO_7 := n1_
                              have BK137 := n2_
                              have HB := n3_
                              clear n0_ n1_ n2_ n3_
                              (try clear hb)
                              (try clear hb2)
                              (try clear hk)
                              (try clear hi)
                              refine hK.out _ _ ⟨(blk_cell BK137.out 0).trans rfl, (blk_cell BK137.out 1).trans rfl, HS2_, HS3_, HS4_, HS5_⟩ (fun hHeld => ?_)
                              clear hK K
                              refine norm_ (a' := ?_) ?_ ?_
                              rotate_left
                              · show Act.put _ (some 42) _ = _
                                simp only [Act.put, List.setIfInBounds_toArray, List.set_cons_zero, List.set_cons_succ, i64_w, i32_w]
                                rfl
                              refine last_ (i := 13) (N := some 43) #[true, true, true, true, true, true, true, true, true, true, true, true, true, true, false, false] rfl rfl (one_of HT_.out (by kernel_rfl)) (by decide) (fun K hK => ?_)
                              refine value_ (w1 := ?_) (v := ?_) (by rfl) rfl ?_ ?_
                              rotate_left 2
                              · go_simp
                                constructor
                                · rfl
                                · rfl
                              refine hK.out _ _ ?_
                              clear hK K
                              refine norm_ (a' := ?_) ?_ ?_
                              rotate_left
                              · show Act.put _ (some 43) _ = _
                                simp only [Act.put, List.setIfInBounds_toArray, List.set_cons_zero, List.set_cons_succ, i64_w, i32_w]
                                rfl
                              refine last_ (i := 14) (N := some 44) #[true, true, true, true, true, true, true, true, true, true, true, true, true, true, true, false] rfl rfl (one_of HT_.out (by kernel_rfl)) (by decide) (fun K hK => ?_)
                              refine Kd.R_append_step k34 (w0 := w) w.heap.size (by rfl) (.tmp 30) (.tmp 43) 37 34 (.agg #[(.float .f64 0), (.float .f64 0)]) 16 rfl Try.underlying37 info34 rfl (by decide) (by omega) u7 x7_2 (⟨t146, t147⟩ : S34) [.float .f64 b_t146, .float .f64 b_t147] (fun k_ => some k_ ≠ (.slice (some ad138) x4_1.length co11 : Value).ownBlock ∧ k_ ≠ gb137) (fun _ => False) rfl rfl ?aP (fun _ hk => hk.elim) ?aF ?aO ?aB ?aS ?aL ?_
                              (case aP => exact k34_mkM _ _ _ (⟨t146, t147⟩ : S34) hF_t146 hF_t147)
                              (case aB => exact (by repeat (first | (with_reducible first | exact HB.out | apply below_alloc | apply pw_below_drewN | apply below_drew1) | exact HB.out)))
                              (case aF => exact (fun k_ hk => ⟨Kd.fresh' (Kd.R_lt (by (with_reducible repeat (first | apply Kd.R_alloc | apply Kd.R_drewN | apply Kd.R_drew)); exact HO_4.out)) k_ hk, Kd.freshB (g := gb137) (o := .cells #[.float .f64 b_fr136_0, .float .f64 b_fr136_1] 34 (0, 0)) (by (with_reducible repeat (first | refine blk_drewN ?_ _ | refine blk_drew ?_ | refine blk_alloc ?_ _)); exact BK137.out) k_ hk⟩))
                              (case aO => exact (by (with_reducible repeat (first | apply Kd.R_alloc | apply Kd.R_drewN | apply Kd.R_drew)); exact HO_7.out))
                              (case aS => exact (below_size (by repeat (first | (with_reducible first | exact HB.out | apply below_alloc | apply pw_below_drewN | apply below_drew1) | exact HB.out))))
                              (case aL => have := LMc21.out; omega)
                              intro v149 w25 ho hb hg hat
                              rw [← Ny148.out] at ho
                              have n0_ := Aside0.mk (Kd.R_after (ok := (fun k_ => k_ ≠ gb137)) (by (with_reducible repeat (first | apply Kd.R_alloc | apply Kd.R_drewN | apply Kd.R_drew)); exact Kd.R_mono HO_4.out (fun _ hk => ⟨hk.2, hk.1⟩)) hg hat)
                              have n1_ := Aside0.mk (blk_grown (g := gb137) (o := .cells #[.float .f64 b_fr136_0, .float .f64 b_fr136_1] 34 (0, 0)) (by (with_reducible repeat (first | refine blk_drewN ?_ _ | refine blk_drew ?_ | refine blk_alloc ?_ _)); exact BK137.out) hg (Kd.R_away HO_7.out (fun _ hk => hk.2)))
                              have n2_ := Aside0.mk (hb)
                              have n3_ := Aside0.mk (ho)
                              clear HO_4
                              clear BK137
                              clear HB
                              clear HO_7
                              have HO_4 := n0_
                              have BK137 := n1_
                              have HB := n2_
                              have HO150 := n3_
                              clear n0_ n1_ n2_ n3_
                              clear ho hb hg hat
                              refine hK.out _ _ ?_
                              clear hK K
                              refine norm_ (a' := ?_) ?_ ?_
                              rotate_left
                              · show Act.put _ (some 44) _ = _
                                simp only [Act.put, List.setIfInBounds_toArray, List.set_cons_zero, List.set_cons_succ, i64_w, i32_w]
                                rfl
                              refine pure_ (i := 15) (N := some 7) (v := ?_) (a' := ?_) #[true, true, true, true, true, true, true, true, true, true, true, true, true, true, true, true] rfl rfl (any_of HT_.out (by kernel_rfl)) (fun _ _ _ h => h) (Or.inl ⟨by rfl, ?_⟩) ?_ ?_
                              rotate_left
                              · intro w'
                                go_simp
                                with_reducible rfl
                              rotate_left
                              · simp only [Act.put, List.setIfInBounds_toArray, List.set_cons_zero, List.set_cons_succ, i64_w, i32_w]
                                rfl
                              refine done_ (done_of HT_.out (by kernel_rfl)) ?_
                              try go_wp2
                              go_roundg k2
                              case measure => have := HK1.out; have := HK2.out; omega
                              case rel => exact ⟨(y148), (wrap64 (x8_2 + 1)), (by first | rfl | (simp; done) | (simp [*]; done)), H', ⟨by have := HK1.out; have := HK2.out; omega⟩, ⟨by (with_reducible repeat (first | apply Kd.R_alloc | apply Kd.R_drewN | apply Kd.R_drew)); exact Kd.R_mono HO_4.out (fun _ hk => ⟨hk.2, hk.1⟩)⟩, ⟨by (with_reducible repeat (first | apply Kd.R_alloc | apply Kd.R_drewN | apply Kd.R_drew)); exact HO150.out⟩, ⟨by (with_reducible repeat (first | refine blk_drewN ?_ _ | refine blk_drew ?_ | refine blk_alloc ?_ _)); exact BK137.out⟩, ⟨by repeat (first | (with_reducible first | exact HB.out | apply below_alloc | apply pw_below_drewN | apply below_drew1) | exact HB.out)⟩⟩
                            · rw [if_neg c21] at H
                              exact absurd H (by simp)
                          · rw [if_neg c18] at H
                            exact absurd H (by simp)
                        · rw [if_neg c17] at H
                          exact absurd H (by simp)
                      · rw [if_neg c15] at H
                        exact absurd H (by simp)
                    · rw [if_neg c14] at H
                      have c14b0 : decide (x8_2 < (x4_1.length : Int)) = false := decide_eq_false c14
                      clear c14
                      obtain ⟨ji26, hji26⟩ : ∃ j_ : Int, (wrap64 ((x4_1.length : Int) - 1)) = j_ := ⟨_, rfl⟩
                      replace H : (if 0 ≤ (ji26) then (if (ji26) < (x4_1.length : Int) then ((impl_CxTimes.f ((rd_T34 x4_1 (ji26)).f0) ((rd_T34 x4_1 (ji26)).f1) fr136_0 fr136_1).bind fun bt152 => ((impl_CxLess.f (cn .f64 0) (cn .f64 0) bt152.1 bt152.2).bind fun bt154 => (if x7_2.length < 8796093022208 then (impl_FromRoots.l0 k2 (x7_2 ++ [(⟨bt154.1, bt154.2⟩ : S34)]) l0 (l0.length : Int) (wrap64 (x16_1 + 1))) else (none)))) else (none)) else (none)) = some (r1, r2) := by first | (rw [hji26] at H; exact H) | (simp only [hji26] at H ⊢; exact H)
                      have hji26w : (IntKind.i64.wrap ((x4_1.length : Int) - 1)) = ji26 := (i64_w _).trans hji26
                      by_cases c27 : 0 ≤ (ji26)
                      · rw [if_pos c27] at H
                        have c27b0 : decide (0 ≤ (ji26)) = true := decide_eq_true c27
                        clear c27
                        by_cases c28 : (ji26) < (x4_1.length : Int)
                        · rw [if_pos c28] at H
                          have c28b0 : decide ((ji26) < (x4_1.length : Int)) = true := decide_eq_true c28
                          clear c28
                          obtain ⟨fr151_0, hfr151_0⟩ : ∃ y_ : Fl, y_ = ((rd_T34 x4_1 (ji26)).f0) := ⟨_, rfl⟩
                          replace H : ((impl_CxTimes.f fr151_0 ((rd_T34 x4_1 (ji26)).f1) fr136_0 fr136_1).bind fun bt152 => ((impl_CxLess.f (cn .f64 0) (cn .f64 0) bt152.1 bt152.2).bind fun bt154 => (if x7_2.length < 8796093022208 then (impl_FromRoots.l0 k2 (x7_2 ++ [(⟨bt154.1, bt154.2⟩ : S34)]) l0 (l0.length : Int) (wrap64 (x16_1 + 1))) else (none)))) = some (r1, r2) := by first | (rw [hfr151_0]; with_reducible exact H) | (have H2_ := (Option.bind_some _ _).symm.trans H; rw [hfr151_0]; with_reducible exact H2_) | (have H2_ := (Option.bind_some _ _).symm.trans H; with_reducible exact H2_) | with_reducible exact H | (rw [hfr151_0]; exact H) | exact H
                          have Nfr151_0 := Aside0.mk hfr151_0
                          clear hfr151_0
                          obtain ⟨fr151_1, hfr151_1⟩ : ∃ y_ : Fl, y_ = ((rd_T34 x4_1 (ji26)).f1) := ⟨_, rfl⟩
                          replace H : ((impl_CxTimes.f fr151_0 fr151_1 fr136_0 fr136_1).bind fun bt152 => ((impl_CxLess.f (cn .f64 0) (cn .f64 0) bt152.1 bt152.2).bind fun bt154 => (if x7_2.length < 8796093022208 then (impl_FromRoots.l0 k2 (x7_2 ++ [(⟨bt154.1, bt154.2⟩ : S34)]) l0 (l0.length : Int) (wrap64 (x16_1 + 1))) else (none)))) = some (r1, r2) := by first | (rw [hfr151_1]; with_reducible exact H) | (have H2_ := (Option.bind_some _ _).symm.trans H; rw [hfr151_1]; with_reducible exact H2_) | (have H2_ := (Option.bind_some _ _).symm.trans H; with_reducible exact H2_) | with_reducible exact H | (rw [hfr151_1]; exact H) | exact H
                          have Nfr151_1 := Aside0.mk hfr151_1
                          clear hfr151_1
                          replace H := Option.bind_eq_some_iff.mp H
                          obtain ⟨⟨t152, t153⟩, A290, H⟩ := H
                          replace H : ((impl_CxLess.f (cn .f64 0) (cn .f64 0) t152 t153).bind fun bt154 => (if x7_2.length < 8796093022208 then (impl_FromRoots.l0 k2 (x7_2 ++ [(⟨bt154.1, bt154.2⟩ : S34)]) l0 (l0.length : Int) (wrap64 (x16_1 + 1))) else (none))) = some (r1, r2) := H
                          have A29 := Aside0.mk A290
                          clear A290
                          replace H := Option.bind_eq_some_iff.mp H
                          obtain ⟨⟨t154, t155⟩, A300, H⟩ := H
                          replace H : (if x7_2.length < 8796093022208 then (impl_FromRoots.l0 k2 (x7_2 ++ [(⟨t154, t155⟩ : S34)]) l0 (l0.length : Int) (wrap64 (x16_1 + 1))) else (none)) = some (r1, r2) := H
                          have A30 := Aside0.mk A300
                          clear A300
                          by_cases c31 : x7_2.length < 8796093022208
                          · rw [if_pos c31] at H
                            have LMc31 := Aside0.mk c31
                            clear c31
                            obtain ⟨y156, hy156⟩ : ∃ y_ : List (S34), y_ = (x7_2 ++ [(⟨t154, t155⟩ : S34)]) := ⟨_, rfl⟩
                            replace H : (impl_FromRoots.l0 k2 y156 l0 (l0.length : Int) (wrap64 (x16_1 + 1))) = some (r1, r2) := by first | (rw [hy156]; with_reducible exact H) | (have H2_ := (Option.bind_some _ _).symm.trans H; rw [hy156]; with_reducible exact H2_) | (have H2_ := (Option.bind_some _ _).symm.trans H; with_reducible exact H2_) | with_reducible exact H | (rw [hy156]; exact H) | exact H
                            have Ny156 := Aside0.mk hy156
                            clear hy156
                            have H' := Aside0.mk H
                            clear H
                            try go_wp2
                            have n0_ := Aside0.mk (Kd.R_drew HO_4.out)
                            have n1_ := Aside0.mk (Kd.R_drew HO_7.out)
                            have n2_ := Aside0.mk (blk_drew BK137.out)
                            have n3_ := Aside0.mk (below_drew1 HB.out)
                            clear HO_4
                            clear HO_7
                            clear BK137
                            clear HB
                            have HO_4 := n0_
                            have HO_7 := n1_
                            have BK137 := n2_
                            have HB := n3_
                            clear n0_ n1_ n2_ n3_
                            have p151 : 0 ≤ ((ji26) : Int) := of_decide_eq_true (by first | (with_reducible assumption) | assumption)
                            have q151 : (ji26) < (x4_1.length : Int) := of_decide_eq_true (by first | (with_reducible assumption) | assumption)
                            obtain ⟨ad151, b_fr151_0, b_fr151_1, e151, hx151_0, hx151_1, hF151_0, hF151_1⟩ := at_T34 (Kd.R_reads' HO_4.out).2.2 (ji26) p151 q151
                            have hF_fr151_0 := hF151_0.trans Nfr151_0.out.symm
                            clear hF151_0
                            have hF_fr151_1 := hF151_1.trans Nfr151_1.out.symm
                            clear hF151_1
                            obtain rfl : ad138 = ad151 := (by injection e151)
                            replace p151 := eq_true p151
                            replace q151 := eq_true q151
                            refine start_ (n := 14) (S := fun w' => w'.cell? ⟨gb137, 0, none⟩ = some (.float .f64 b_fr136_0) ∧ w'.cell? ⟨gb137, 1, none⟩ = some (.float .f64 b_fr136_1) ∧ w'.cell? (ad138.add (((ji26)).toNat * 2)) = some (.float .f64 b_fr151_0) ∧ w'.cell? ⟨(ad138.add (((ji26)).toNat * 2)).block, (ad138.add (((ji26)).toNat * 2)).off + 1, none⟩ = some (.float .f64 b_fr151_1)) (ds := [11, 12]) #[false, false, false, false, false, false, false, false, false, false, false, false, false, false] (by kernel_rfl) rfl rfl ⟨(blk_cell BK137.out 0).trans rfl, (blk_cell BK137.out 1).trans rfl, hx151_0, hx151_1⟩ (fun hHeld => ?_); refine with_tabW impl_FromRoots.tab12 impl_FromRoots.bits12 (fun HT_ HW_ => ?_)
                            generalize wr.drew = w32 at HO_4 HO_7 BK137 HB hx151_0 hx151_1 hHeld ⊢
                            refine pure_ (i := 0) (N := some 45) (v := ?_) (a' := ?_) #[true, false, false, false, false, false, false, false, false, false, false, false, false, false] rfl rfl (any_of HT_.out (by kernel_rfl)) (fun _ _ _ h => h) (Or.inl ⟨by rfl, ?_⟩) ?_ ?_
                            rotate_left
                            · intro w'
                              go_simp
                              with_reducible rfl
                            rotate_left
                            · simp only [Act.put, List.setIfInBounds_toArray, List.set_cons_zero, List.set_cons_succ, i64_w, i32_w]
                              rfl
                            refine pure_ (i := 1) (N := some 46) (v := ?_) (a' := ?_) #[true, true, false, false, false, false, false, false, false, false, false, false, false, false] rfl rfl (any_of HT_.out (by kernel_rfl)) (fun _ _ _ h => h) (Or.inl ⟨by rfl, ?_⟩) ?_ ?_
                            rotate_left
                            · intro w'
                              go_simp
                              with_reducible rfl
                            rotate_left
                            · simp only [Act.put, List.setIfInBounds_toArray, List.set_cons_zero, List.set_cons_succ, i64_w, i32_w]
                              rfl
                            refine pure_ (i := 2) (N := some 47) (v := ?_) (a' := ?_) #[true, true, true, false, false, false, false, false, false, false, false, false, false, false] rfl rfl (any_of HT_.out (by kernel_rfl)) (fun _ _ _ h => h) (Or.inl ⟨by rfl, ?_⟩) ?_ ?_
                            rotate_left
                            · intro w'
                              go_simp
                              with_reducible rfl
                            rotate_left
                            · simp only [Act.put, List.setIfInBounds_toArray, List.set_cons_zero, List.set_cons_succ, i64_w, i32_w]
                              rfl
                            refine pure_ (i := 3) (N := some 48) (v := ?_) (a' := ?_) #[true, true, true, true, false, false, false, false, false, false, false, false, false, false] rfl rfl (any_of HT_.out (by kernel_rfl)) (fun _ _ _ h => h) (Or.inl ⟨by rfl, ?_⟩) ?_ ?_
                            rotate_left
                            · intro w'
                              go_simp
                              with_reducible rfl
                            rotate_left
                            · simp only [Act.put, List.setIfInBounds_toArray, List.set_cons_zero, List.set_cons_succ, i64_w, i32_w]
                              rfl
                            refine pure_ (i := 4) (N := some 49) (v := ?_) (a' := ?_) #[true, true, true, true, true, false, false, false, false, false, false, false, false, false] rfl rfl (any_of HT_.out (by kernel_rfl)) (fun _ _ _ h => h) (Or.inl ⟨by rfl, ?_⟩) ?_ ?_
                            rotate_left
                            · intro w'
                              go_simp
                              with_reducible rfl
                            rotate_left
                            · simp only [Act.put, List.setIfInBounds_toArray, List.set_cons_zero, List.set_cons_succ, i64_w, i32_w]
                              rfl
                            refine pure_ (i := 5) (N := some 50) (v := ?_) (a' := ?_) #[true, true, true, true, true, true, false, false, false, false, false, false, false, false] rfl rfl (any_of HT_.out (by kernel_rfl)) (fun _ _ _ h => h) (Or.inl ⟨by rfl, ?_⟩) ?_ ?_
                            rotate_left
                            · intro w'
                              go_simp
                              with_reducible rfl
                            rotate_left
                            · simp only [Act.put, List.setIfInBounds_toArray, List.set_cons_zero, List.set_cons_succ, i64_w, i32_w]
                              rfl
                            refine pure_ (i := 6) (N := some 51) (v := ?_) (a' := ?_) #[true, true, true, true, true, true, true, false, false, false, false, false, false, false] rfl rfl (any_of HT_.out (by kernel_rfl)) (fun _ _ _ h => h) (Or.inl ⟨by rfl, ?_⟩) ?_ ?_
                            rotate_left
                            · intro w'
                              go_simp
                              with_reducible rfl
                            rotate_left
                            · simp only [Act.put, List.setIfInBounds_toArray, List.set_cons_zero, List.set_cons_succ, i64_w, i32_w]
                              rfl
                            refine take_ (i := 7) (N := some 52) (v := ?_) (a' := ?_) #[true, true, true, true, true, true, true, true, false, false, false, false, false, false] rfl rfl (take_ofW HT_.out HW_.out (by kernel_rfl)) (fun _ _ _ h => h) (Or.inl ⟨by rfl, ?_⟩) hHeld ?_ ?_
                            rotate_left
                            · rintro w' ⟨s0, s1, s2, s3⟩
                              go_simp
                              with_reducible rfl
                            rotate_left
                            · simp only [Act.put, List.setIfInBounds_toArray, List.set_cons_zero, List.set_cons_succ, i64_w, i32_w]
                              rfl
                            refine take_ (i := 8) (N := some 53) (v := ?_) (a' := ?_) #[true, true, true, true, true, true, true, true, true, false, false, false, false, false] rfl rfl (take_ofW HT_.out HW_.out (by kernel_rfl)) (fun _ _ _ h => h) (Or.inl ⟨by rfl, ?_⟩) hHeld ?_ ?_
                            rotate_left
                            · rintro w' ⟨s0, s1, s2, s3⟩
                              go_simp
                              with_reducible rfl
                            rotate_left
                            · simp only [Act.put, List.setIfInBounds_toArray, List.set_cons_zero, List.set_cons_succ, i64_w, i32_w]
                              rfl
                            refine one_ (i := 9) (N := some 54) #[true, true, true, true, true, true, true, true, true, true, false, false, false, false] rfl rfl (one_of HT_.out (by kernel_rfl)) (by decide) (fun K hK => ?_)
                            refine goes_ Try.func51 (by kernel_rfl) rfl #[.agg #[.float .f64 b_fr151_0, .float .f64 b_fr151_1], .agg #[.float .f64 b_fr136_0, .float .f64 b_fr136_1]] (by rfl) rfl rfl (by (try simp only [List.map_toArray, List.map_cons, List.map_nil]); first | done | rfl | (simp only [List.length_drop, List.length_take]; rfl)) ?_
                            with_reducible refine (impl_CxTimes.calls b_fr151_0 fr151_0 b_fr151_1 fr151_1 b_fr136_0 fr136_0 b_fr136_1 fr136_1 t152 t153 _ ?side1 ?side2 ?side3 ?side4 A29.out).mono ?_
                            (case side1 => exact hF_fr151_0)
                            (case side2 => exact hF_fr151_1)
                            (case side3 => exact hF_fr136_0)
                            (case side4 => exact hF_fr136_1)
                            rintro e w33 ⟨b_t152, b_t153, rfl, hF_t152, hF_t153, hb⟩
                            have HS2_ := (hb.cell (World.block_lt_of_cell? _ _ (hHeld.2.2.1))).trans (hHeld.2.2.1)
                            have HS3_ := (hb.cell (World.block_lt_of_cell? _ _ (hHeld.2.2.2))).trans (hHeld.2.2.2)
                            refine ⟨_, rfl, ?_⟩
                            have n0_ := Aside0.mk (Kd.R_below (by (with_reducible repeat (first | apply Kd.R_alloc | apply Kd.R_drewN | apply Kd.R_drew)); exact HO_4.out) hb)
                            have n1_ := Aside0.mk (Kd.R_below (by (with_reducible repeat (first | apply Kd.R_alloc | apply Kd.R_drewN | apply Kd.R_drew)); exact HO_7.out) hb)
                            have n2_ := Aside0.mk (blk_below (g := gb137) (o := .cells #[.float .f64 b_fr136_0, .float .f64 b_fr136_1] 34 (0, 0)) (by (with_reducible repeat (first | refine blk_drewN ?_ _ | refine blk_drew ?_ | refine blk_alloc ?_ _)); exact BK137.out) hb)
                            have n3_ := Aside0.mk (below_step (by repeat (first | (with_reducible first | exact HB.out | apply below_alloc | apply pw_below_drewN | apply below_drew1) | exact HB.out)) hb)
                            clear HO_4
                            clear HO_7
                            clear BK137
                            clear HB
                            have HO_4 := n0_
                            have HO_7 := n1_
                            have BK137 := n2_
                            have HB := n3_
                            clear n0_ n1_ n2_ n3_
                            (try clear hb)
                            (try clear hb2)
                            (try clear hk)
                            (try clear hi)
                            refine hK.out _ _ ⟨(blk_cell BK137.out 0).trans rfl, (blk_cell BK137.out 1).trans rfl, HS2_, HS3_⟩ (fun hHeld => ?_)
                            clear hK K
                            refine norm_ (a' := ?_) ?_ ?_
                            rotate_left
                            · show Act.put _ (some 54) _ = _
                              simp only [Act.put, List.setIfInBounds_toArray, List.set_cons_zero, List.set_cons_succ, i64_w, i32_w]
                              rfl
                            refine one_ (i := 10) (N := some 55) #[true, true, true, true, true, true, true, true, true, true, true, false, false, false] rfl rfl (one_of HT_.out (by kernel_rfl)) (by decide) (fun K hK => ?_)
                            refine goes_ Try.func54 (by kernel_rfl) rfl #[.agg #[.float .f64 0, .float .f64 0], .agg #[.float .f64 b_t152, .float .f64 b_t153]] (by rfl) rfl rfl (by (try simp only [List.map_toArray, List.map_cons, List.map_nil]); first | done | rfl | (simp only [List.length_drop, List.length_take]; rfl)) ?_
                            with_reducible refine (impl_CxLess.calls 0 (cn .f64 0) 0 (cn .f64 0) b_t152 t152 b_t153 t153 t154 t155 _ ?side1 ?side2 ?side3 ?side4 A30.out).mono ?_
                            (case side1 => exact rfl)
                            (case side2 => exact rfl)
                            (case side3 => exact hF_t152)
                            (case side4 => exact hF_t153)
                            rintro e w34 ⟨b_t154, b_t155, rfl, hF_t154, hF_t155, hb⟩
                            have HS2_ := (hb.cell (World.block_lt_of_cell? _ _ (hHeld.2.2.1))).trans (hHeld.2.2.1)
                            have HS3_ := (hb.cell (World.block_lt_of_cell? _ _ (hHeld.2.2.2))).trans (hHeld.2.2.2)
                            refine ⟨_, rfl, ?_⟩
                            have n0_ := Aside0.mk (Kd.R_below (by (with_reducible repeat (first | apply Kd.R_alloc | apply Kd.R_drewN | apply Kd.R_drew)); exact HO_4.out) hb)
                            have n1_ := Aside0.mk (Kd.R_below (by (with_reducible repeat (first | apply Kd.R_alloc | apply Kd.R_drewN | apply Kd.R_drew)); exact HO_7.out) hb)
                            have n2_ := Aside0.mk (blk_below (g := gb137) (o := .cells #[.float .f64 b_fr136_0, .float .f64 b_fr136_1] 34 (0, 0)) (by (with_reducible repeat (first | refine blk_drewN ?_ _ | refine blk_drew ?_ | refine blk_alloc ?_ _)); exact BK137.out) hb)
                            have n3_ := Aside0.mk (below_step (by repeat (first | (with_reducible first | exact HB.out | apply below_alloc | apply pw_below_drewN | apply below_drew1) | exact HB.out)) hb)
                            clear HO_4
                            clear HO_7
                            clear BK137
                            clear HB
                            have HO_4 := n0_
                            have HO_7 := n1_
                            have BK137 := n2_
                            have HB := n3_
                            clear n0_ n1_ n2_ n3_
                            (try clear hb)
                            (try clear hb2)
                            (try clear hk)
                            (try clear hi)
                            refine hK.out _ _ ⟨(blk_cell BK137.out 0).trans rfl, (blk_cell BK137.out 1).trans rfl, HS2_, HS3_⟩ (fun hHeld => ?_)
                            clear hK K
                            refine norm_ (a' := ?_) ?_ ?_
                            rotate_left
                            · show Act.put _ (some 55) _ = _
                              simp only [Act.put, List.setIfInBounds_toArray, List.set_cons_zero, List.set_cons_succ, i64_w, i32_w]
                              rfl
                            refine last_ (i := 11) (N := some 56) #[true, true, true, true, true, true, true, true, true, true, true, true, false, false] rfl rfl (one_of HT_.out (by kernel_rfl)) (by decide) (fun K hK => ?_)
                            refine value_ (w1 := ?_) (v := ?_) (by rfl) rfl ?_ ?_
                            rotate_left 2
                            · go_simp
                              constructor
                              · rfl
                              · rfl
                            refine hK.out _ _ ?_
                            clear hK K
                            refine norm_ (a' := ?_) ?_ ?_
                            rotate_left
                            · show Act.put _ (some 56) _ = _
                              simp only [Act.put, List.setIfInBounds_toArray, List.set_cons_zero, List.set_cons_succ, i64_w, i32_w]
                              rfl
                            refine last_ (i := 12) (N := some 57) #[true, true, true, true, true, true, true, true, true, true, true, true, true, false] rfl rfl (one_of HT_.out (by kernel_rfl)) (by decide) (fun K hK => ?_)
                            refine Kd.R_append_step k34 (w0 := w) w.heap.size (by rfl) (.tmp 45) (.tmp 56) 37 34 (.agg #[(.float .f64 0), (.float .f64 0)]) 16 rfl Try.underlying37 info34 rfl (by decide) (by omega) u7 x7_2 (⟨t154, t155⟩ : S34) [.float .f64 b_t154, .float .f64 b_t155] (fun k_ => some k_ ≠ (.slice (some ad138) x4_1.length co11 : Value).ownBlock ∧ k_ ≠ gb137) (fun _ => False) rfl rfl ?aP (fun _ hk => hk.elim) ?aF ?aO ?aB ?aS ?aL ?_
                            (case aP => exact k34_mkM _ _ _ (⟨t154, t155⟩ : S34) hF_t154 hF_t155)
                            (case aB => exact (by repeat (first | (with_reducible first | exact HB.out | apply below_alloc | apply pw_below_drewN | apply below_drew1) | exact HB.out)))
                            (case aF => exact (fun k_ hk => ⟨Kd.fresh' (Kd.R_lt (by (with_reducible repeat (first | apply Kd.R_alloc | apply Kd.R_drewN | apply Kd.R_drew)); exact HO_4.out)) k_ hk, Kd.freshB (g := gb137) (o := .cells #[.float .f64 b_fr136_0, .float .f64 b_fr136_1] 34 (0, 0)) (by (with_reducible repeat (first | refine blk_drewN ?_ _ | refine blk_drew ?_ | refine blk_alloc ?_ _)); exact BK137.out) k_ hk⟩))
                            (case aO => exact (by (with_reducible repeat (first | apply Kd.R_alloc | apply Kd.R_drewN | apply Kd.R_drew)); exact HO_7.out))
                            (case aS => exact (below_size (by repeat (first | (with_reducible first | exact HB.out | apply below_alloc | apply pw_below_drewN | apply below_drew1) | exact HB.out))))
                            (case aL => have := LMc31.out; omega)
                            intro v157 w35 ho hb hg hat
                            rw [← Ny156.out] at ho
                            have n0_ := Aside0.mk (Kd.R_after (ok := (fun k_ => k_ ≠ gb137)) (by (with_reducible repeat (first | apply Kd.R_alloc | apply Kd.R_drewN | apply Kd.R_drew)); exact Kd.R_mono HO_4.out (fun _ hk => ⟨hk.2, hk.1⟩)) hg hat)
                            have n1_ := Aside0.mk (blk_grown (g := gb137) (o := .cells #[.float .f64 b_fr136_0, .float .f64 b_fr136_1] 34 (0, 0)) (by (with_reducible repeat (first | refine blk_drewN ?_ _ | refine blk_drew ?_ | refine blk_alloc ?_ _)); exact BK137.out) hg (Kd.R_away HO_7.out (fun _ hk => hk.2)))
                            have n2_ := Aside0.mk (hb)
                            have n3_ := Aside0.mk (ho)
                            clear HO_4
                            clear BK137
                            clear HB
                            clear HO_7
                            have HO_4 := n0_
                            have BK137 := n1_
                            have HB := n2_
                            have HO158 := n3_
                            clear n0_ n1_ n2_ n3_
                            clear ho hb hg hat
                            refine hK.out _ _ ?_
                            clear hK K
                            refine norm_ (a' := ?_) ?_ ?_
                            rotate_left
                            · show Act.put _ (some 57) _ = _
                              simp only [Act.put, List.setIfInBounds_toArray, List.set_cons_zero, List.set_cons_succ, i64_w, i32_w]
                              rfl
                            refine pure_ (i := 13) (N := some 4) (v := ?_) (a' := ?_) #[true, true, true, true, true, true, true, true, true, true, true, true, true, true] rfl rfl (any_of HT_.out (by kernel_rfl)) (fun _ _ _ h => h) (Or.inl ⟨by rfl, ?_⟩) ?_ ?_
                            rotate_left
                            · intro w'
                              go_simp
                              with_reducible rfl
                            rotate_left
                            · simp only [Act.put, List.setIfInBounds_toArray, List.set_cons_zero, List.set_cons_succ, i64_w, i32_w]
                              rfl
                            refine done_ (done_of HT_.out (by kernel_rfl)) ?_
                            try go_wp2
                            go_roundg k2
                            case measure => have := HK1.out; have := HK2.out; omega
                            case rel => exact ⟨(y156), (wrap64 (x16_1 + 1)), (by first | rfl | (simp; done) | (simp [*]; done)), H', ⟨by have := HK1.out; have := HK2.out; omega⟩, ⟨by (with_reducible repeat (first | apply Kd.R_alloc | apply Kd.R_drewN | apply Kd.R_drew)); exact Kd.R_mono HO158.out (fun _ hk => trivial)⟩, ⟨by repeat (first | (with_reducible first | exact HB.out | apply below_alloc | apply pw_below_drewN | apply below_drew1) | exact HB.out)⟩⟩
                          · rw [if_neg c31] at H
                            exact absurd H (by simp)
                        · rw [if_neg c28] at H
                          exact absurd H (by simp)
                      · rw [if_neg c27] at H
                        exact absurd H (by simp)
              · rw [if_neg c8] at H
                exact absurd H (by simp)
            · rw [if_neg c7] at H
              exact absurd H (by simp)
          · rw [if_neg c6] at H
            exact absurd H (by simp)
        · rw [if_neg c5] at H
          have c5b0 : decide (x16_1 < (l0.length : Int)) = false := decide_eq_false c5
          clear c5
          simp only [Option.some.injEq, Prod.mk.injEq] at H
          obtain ⟨rfl, rfl⟩ := H
          go_wp2
          go_ret2
          exact ⟨_, by first | rfl | (simp [errW_none, errW_some] <;> rfl) | (simp [*, errW_none, errW_some] <;> rfl), by (with_reducible repeat (first | apply Kd.R_alloc | apply Kd.R_drewN | apply Kd.R_drew)); exact HO_4.out, by repeat (first | (with_reducible first | exact HB.out | apply below_alloc | apply pw_below_drewN | apply below_drew1) | exact HB.out)⟩

/-! ### laws_big: function 48 -/
def laws_big.f (l0 : List Int) : Option (Bool) := some (decide ((l0.length : Int) > 1048576))
set_option maxHeartbeats 8000000 in
set_option maxRecDepth 100000 in
theorem laws_big.calls (A0 : Option Addr) (c0 : Nat) (l0 : List Int) (r : Bool) (w : World) (hr0 : Kd.C (Kd.int .u8) w A0 l0.length l0) (hc0 : l0.length ≤ c0) (h : laws_big.f l0 = some r) :
    Calls Try.prog 48 #[.slice A0 l0.length c0] w fun e w' => e = .returned (.bool r) ∧ Drawn0 w w' := by
  have HR0 := Aside0.mk hr0
  have HC0 := Aside0.mk hc0
  clear hr0 hc0
  have H : (some (decide ((l0.length : Int) > 1048576))) = some r := h
  clear h
  obtain rfl := Option.some.inj H
  go_enter Try.func48, Try.ntmps48
  go_wp2
  go_ret
  exact ⟨by first | rfl | (simp; done) | (simp [*]; done), by repeat (first | exact Drawn0.refl _ | apply Drawn0.step)⟩

end Go.Proofs.Ytfopdbdamkfglaa.QFnSizes
