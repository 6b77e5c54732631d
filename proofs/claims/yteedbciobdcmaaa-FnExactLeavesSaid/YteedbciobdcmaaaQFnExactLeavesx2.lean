/- Lean functions that tell what the Go functions used by one law answer, and for each a proof that the Go code comes to just these answers; no condition. Printed by this session's own program over the kit's printer. -/
import Derived.Test.YteedbciobdcmaaaWSq
import Derived.Test.YteedbciobdcmaaaQFnExactLeavesx0
import Derived.Test.YteedbciobdcmaaaQFnExactLeavesx1
namespace Go.Proofs.Yteedbciobdcmaaa.QFnExactLeaves
open Go.RowKit Go.Proofs.YteedbciobdcmaaaW.PrintWords Go.Proofs.YteedbciobdcmaaaW.PrintLast Go.Proofs.YteedbciobdcmaaaW.PrintMore
attribute [local go_sem] max2_int min2_int max_two min_two max_three min_three max_four min_four   -- for this text's walks alone
attribute [local go_sem high] go_eql go_neq go_lss go_leq go_gtr go_geq go_store   -- for this text's walks alone
set_option linter.unusedVariables false
set_option linter.unusedSimpArgs false

/-! ### spec_Burnt: function 25 -/
mutual
def spec_Burnt.j0 : Nat → List (S60) → List (S62) → Bool → Option ((List (S60)) × Int)
 | 0, _, _, _ => none
 | k + 1, x0, x1, x16 => if x16 = true then (some ((([] : List (S60))), (-2))) else ((some (([] : List (S60)) : List (S60))).bind fun y113 => (if y113.length + x0.length < 8796093022208 then (spec_Burnt.l0 k x1 (y113 ++ x0) 0) else (none)))
def spec_Burnt.l0 : Nat → List (S62) → List (S60) → Int → Option ((List (S60)) × Int)
 | 0, _, _, _ => none
 | k + 1, x1, x6, x7 => if x7 < (x1.length : Int) then (if 0 ≤ x7 then ((spec_l1In.f ((rd_T62 x1 x7).f0) 0 (wrap64 ((x6.length : Int) - 1))).bind fun t121 => (if t121 = true then ((spec_l1In.f ((rd_T62 x1 x7).f1) 1 10000).bind fun t122 => (if t122 = true then (if 0 ≤ ((rd_T62 x1 x7).f0) then (if ((rd_T62 x1 x7).f0) < (x6.length : Int) then (if ((rd_T60 x6 ((rd_T62 x1 x7).f0)).f0) < ((rd_T62 x1 x7).f1) then (some (x6, x7)) else (spec_Burnt.l0 k x1 (x6.set (((rd_T62 x1 x7).f0) : Int).toNat (⟨wrap64 (((rd_T60 x6 ((rd_T62 x1 x7).f0)).f0) - ((rd_T62 x1 x7).f1)), (rd_T60 x6 ((rd_T62 x1 x7).f0)).f1⟩ : S60)) (wrap64 (x7 + 1)))) else (none)) else (none)) else (some (x6, x7)))) else (some (x6, x7)))) else (none)) else (some (x6, (-1)))
end
def spec_Burnt.f (k : Nat) (l0 : List (S60)) (l1 : List (S62)) : Option ((List (S60)) × Int) := (spec_l2Tanks.f k l0).bind fun t109 => (if t109 = true then (spec_Burnt.j0 k l0 l1 (decide ((l1.length : Int) > 60))) else (spec_Burnt.j0 k l0 l1 true))
theorem spec_Burnt.mono_l : ∀ k, (∀ y0 y1 y2, LeO (spec_Burnt.j0 k y0 y1 y2) (spec_Burnt.j0 (k + 1) y0 y1 y2)) ∧ (∀ y0 y1 y2, LeO (spec_Burnt.l0 k y0 y1 y2) (spec_Burnt.l0 (k + 1) y0 y1 y2))
 | 0 => ⟨fun _ _ _ r h => by simp [spec_Burnt.j0] at h, fun _ _ _ r h => by simp [spec_Burnt.l0] at h⟩
 | k + 1 => by
  obtain ⟨ih0, ih1⟩ := spec_Burnt.mono_l k
  refine ⟨?_, ?_⟩
  ·intro y0 y1 y2
   unfold spec_Burnt.j0
   repeat' first
   | (with_reducible exact ih0 _ _ _)
   | (with_reducible exact ih1 _ _ _)
   | (with_reducible exact spec_l2Tanks.mono _ _)
   | (with_reducible exact LeO.refl _)
   | (with_reducible exact LeO.none _)
   | (with_reducible refine LeO.ite ?_ ?_)
   | (with_reducible refine LeO.bind ?_ (fun _ => ?_))
   | exact ih0 _ _ _
   | exact ih1 _ _ _
   | exact spec_l2Tanks.mono _ _
   | exact LeO.none _
   | refine LeO.ite ?_ ?_
   | refine LeO.bind ?_ (fun _ => ?_)
  ·intro y0 y1 y2
   unfold spec_Burnt.l0
   repeat' first
   | (with_reducible exact ih0 _ _ _)
   | (with_reducible exact ih1 _ _ _)
   | (with_reducible exact spec_l2Tanks.mono _ _)
   | (with_reducible exact LeO.refl _)
   | (with_reducible exact LeO.none _)
   | (with_reducible refine LeO.ite ?_ ?_)
   | (with_reducible refine LeO.bind ?_ (fun _ => ?_))
   | exact ih0 _ _ _
   | exact ih1 _ _ _
   | exact spec_l2Tanks.mono _ _
   | exact LeO.none _
   | refine LeO.ite ?_ ?_
   | refine LeO.bind ?_ (fun _ => ?_)
theorem spec_Burnt.mono : ∀ a0 a1 k, LeO (spec_Burnt.f k a0 a1) (spec_Burnt.f (k + 1) a0 a1) := by
 intro a0 a1 k
 obtain ⟨ih0, ih1⟩ := spec_Burnt.mono_l k
 unfold spec_Burnt.f
 repeat' first
   | (with_reducible exact ih0 _ _ _)
   | (with_reducible exact ih1 _ _ _)
   | (with_reducible exact spec_l2Tanks.mono _ _)
   | (with_reducible exact LeO.refl _)
   | (with_reducible exact LeO.none _)
   | (with_reducible refine LeO.ite ?_ ?_)
   | (with_reducible refine LeO.bind ?_ (fun _ => ?_))
   | exact ih0 _ _ _
   | exact ih1 _ _ _
   | exact spec_l2Tanks.mono _ _
   | exact LeO.none _
   | refine LeO.ite ?_ ?_
   | refine LeO.bind ?_ (fun _ => ?_)
def spec_Burnt.T8 : Bool × List (List Nat × List Nat) := (true, [([], []), ([0], [0]), ([], []), ([2], [2]), ([3], [3]), ([1, 4], [1, 4]), ([5], [5]), ([6, 5], [6]), ([7], [7]), ([8, 7], [7, 8]), ([9, 7, 7], [7, 9]), ([10, 7], [7, 10]), ([7, 11], [7, 11]), ([12, 10], [12]), ([13], [13]), ([13], [13]), ([15, 13], [13, 15]), ([14, 16, 13], [13, 14, 16]), ([17, 13], [13, 17]), ([18, 13], [13, 18]), ([13], [13]), ([20, 13], [13, 20]), ([19, 21, 13], [13, 19, 21]), ([13, 22], [13, 22])])
def spec_Burnt.B8 : List Nat := [0, 1, 0, 4, 12, 31, 63, 127, 255, 511, 1023, 2047, 4095, 8191, 16383, 16383, 49151, 131071, 262143, 524287, 16383, 1064959, 4194303, 8388607]
theorem spec_Burnt.tab8 : rtab .any (opsOf Try.f25 8) = spec_Burnt.T8 := by kernel_rfl
theorem spec_Burnt.bits8 : waitsOk spec_Burnt.T8.2 spec_Burnt.B8 = true := by kernel_rfl
def spec_Burnt.T10 : Bool × List (List Nat × List Nat) := (true, [([], []), ([], []), ([1], [1]), ([], []), ([], []), ([4], [4]), ([3, 5], [3, 5]), ([6], [6]), ([7], [7]), ([], []), ([9], [9]), ([8, 10], [8, 10]), ([0, 2, 0, 1, 2, 3, 4, 5, 6, 7, 8, 9, 10, 11], [0, 2]), ([12, 0, 1, 2, 3, 4, 5, 6, 7, 8, 9, 10, 11], [12]), ([13, 11, 0, 1, 2, 3, 4, 5, 6, 7, 8, 9, 10, 11], [11, 13])])
def spec_Burnt.B10 : List Nat := [0, 0, 2, 0, 0, 16, 56, 120, 248, 0, 512, 2040, 4095, 8191, 16383]
theorem spec_Burnt.tab10 : rtab .any (opsOf Try.f25 10) = spec_Burnt.T10 := by kernel_rfl
theorem spec_Burnt.bits10 : waitsOk spec_Burnt.T10.2 spec_Burnt.B10 = true := by kernel_rfl
set_option maxHeartbeats 8000000 in
set_option maxRecDepth 100000 in
theorem spec_Burnt.calls (k : Nat) (A0 : Option Addr) (c0 : Nat) (l0 : List (S60)) (A1 : Option Addr) (c1 : Nat) (l1 : List (S62)) (r1 : List (S60)) (r2 : Int) (w : World) (hr0 : Kd.C k60 w A0 l0.length l0) (hc0 : l0.length ≤ c0) (hr1 : Kd.C k62 w A1 l1.length l1) (hc1 : l1.length ≤ c1) (h : spec_Burnt.f k l0 l1 = some (r1, r2)) :
  Calls Try.prog 25 #[.slice A0 l0.length c0, .slice A1 l1.length c1] w fun e w' => ∃ v0_ : Value, e = .returned (.tuple #[v0_, .int .i64 r2]) ∧ Kd.R k60 60 w' w.heap.size (fun _ => True) v0_ r1 ∧ Below w.heap.size w w' := by
 have hu62 := Try.underlying62
 have HR0 := mk_ hr0; have HC0 := mk_ hc0; clear hr0 hc0; have HR1 := mk_ hr1; have HC1 := mk_ hc1; clear hr1 hc1; have HB := mk_ (Below.refl w.heap.size w)
 have H : ((spec_l2Tanks.f k l0).bind fun t109 => (if t109 = true then (spec_Burnt.j0 k l0 l1 (decide ((l1.length : Int) > 60))) else (spec_Burnt.j0 k l0 l1 true))) = some (r1, r2) := h
 clear h; have HC3 := mk_ H; clear H
 go_enter Try.func25, Try.ntmps25
 go_upto_region 1 with (fail)
 go_cut [16] (fun v16 wc => ∃ (kq : Nat) (x16_2 : Bool), v16 = .bool x16_2 ∧ Aside0 (spec_Burnt.j0 kq l0 l1 x16_2 = some (r1, r2)) ∧ Aside0 (kq ≤ k) ∧ Aside0 (Below w.heap.size w wc))
 case first =>
  have H := HC3.out; clear HC3; replace H := Option.bind_eq_some_iff.mp H; obtain ⟨t109, A40, H⟩ := H
  replace H : (if t109 = true then (spec_Burnt.j0 k l0 l1 (decide ((l1.length : Int) > 60))) else (spec_Burnt.j0 k l0 l1 true)) = some (r1, r2) := H
  have A4 := mk_ A40; clear A40; by_cases c5 : t109 = true
  ·subst c5
   have H1 : (spec_Burnt.j0 k l0 l1 (decide ((l1.length : Int) > 60))) = some (r1, r2) := by rw [if_pos rfl] at H; exact H
   clear H
   have H := H1
   clear H1
   have H' := mk_ H
   clear H
   go_wp2_with (first | ((with_reducible refine gc_ 45 rfl ?_); refine gl_ (some 10) rfl Try.func45 #[.slice A0 l0.length c0] ?_; (with_reducible refine (spec_l2Tanks.calls k _ _ l0 true _ ?side1 ?side2 A4.out).mono ?_); (case side1 => exact cw_ (Kd.C_below HR0.out HB.out)); (case side2 => exact HC0.out); rintro e w' ⟨rfl, ⟨nd, rfl⟩⟩; refine ⟨_, rfl, ?_⟩))
   go_meet
   case rel => exact ⟨_, (decide ((l1.length : Int) > 60)), rf_, H', ⟨by first | omega | exact Nat.le_refl _⟩, ⟨hw_ HB⟩⟩
  ·replace c5 := Bool.eq_false_iff.mpr c5; subst c5
   have H1 : (spec_Burnt.j0 k l0 l1 true) = some (r1, r2) := by rw [if_neg (show ¬ (false = true) by decide)] at H; exact H
   clear H
   have H := H1
   clear H1
   have H' := mk_ H
   clear H
   go_wp2_with (first | ((with_reducible refine gc_ 45 rfl ?_); refine gl_ (some 10) rfl Try.func45 #[.slice A0 l0.length c0] ?_; (with_reducible refine (spec_l2Tanks.calls k _ _ l0 false _ ?side1 ?side2 A4.out).mono ?_); (case side1 => exact cw_ (Kd.C_below HR0.out HB.out)); (case side2 => exact HC0.out); rintro e w' ⟨rfl, ⟨nd, rfl⟩⟩; refine ⟨_, rfl, ?_⟩))
   go_meet
   case rel => exact ⟨_, (true), rf_, H', ⟨by first | omega | exact Nat.le_refl _⟩, ⟨hw_ HB⟩⟩
 case rest =>
  clear HC3; (try clear c1)
  obtain ⟨kq, x16_2, rfl, HA, HJ2, HB⟩ := hcut
  cases kq with
  | zero => exact absurd HA.out (by simp [spec_Burnt.j0])
  | succ kj2 =>
   have H := HA.out; clear HA
   simp only [spec_Burnt.j0] at H
   by_cases c6 : x16_2 = true
   ·subst c6
    have H1 : (some ((([] : List (S60))), (-2))) = some (r1, r2) := by rw [if_pos rfl] at H; exact H
    clear H
    have H := H1
    clear H1
    obtain ⟨y110, hy110⟩ : ∃ y_ : List (S60), y_ = (([] : List (S60))) := ⟨_, rfl⟩
    replace H : (some (y110, (-2))) = some (r1, r2) := by first | (rw [hy110]; with_reducible exact H) | (have H2_ := (Option.bind_some _ _).symm.trans H; rw [hy110]; with_reducible exact H2_) | (have H2_ := (Option.bind_some _ _).symm.trans H; with_reducible exact H2_) | with_reducible exact H | (rw [hy110]; exact H) | exact H
    have Ny110 := mk_ hy110; clear hy110
    simp only [Option.some.injEq, Prod.mk.injEq] at H
    obtain ⟨rfl, rfl⟩ := H
    go_wp2_with (first | ((with_reducible refine gd_ 17 rfl ?_); (try (refine gate_guard (by rfl) ?_; dsimp only)); refine Kd.R_lit k60 _ 60 ?hg (N := 17) ?hd (xs := ([] : List (S60))) (inner := []) (ok := fun _ => True) (okp := fun _ => True) ?hr ?hp (fun _ hk => hk) trivial (Below.refl _ _) (Nat.le_refl _) (by simp) ?_; (case hd => rfl); (case hg => rfl); (case hr => exact hr_); (case hp => exact (Reps.none _ _)); intro v111 w7 ho8 hb hg_ hnew_; clear hg_ hnew_; (first | rw [← Ny110.out] at ho8 | (simp only [Int.reduceToNat] at ho8; rw [← Ny110.out] at ho8)); have HO112 := mk_ (Kd.R_lower ho8 (below_size (by exact HB.out))); replace HB := bp_ HB hb; clear hb ho8))
    go_ret2
    exact ⟨_, re_, by (with_reducible repeat (first | apply Kd.R_alloc | apply Kd.R_drewN | apply Kd.R_drew)); exact HO112.out, hw_ HB⟩
   ·replace c6 := Bool.eq_false_iff.mpr c6; subst c6
    have H1 : ((some (([] : List (S60)) : List (S60))).bind fun y113 => (if y113.length + l0.length < 8796093022208 then (spec_Burnt.l0 kj2 l1 (y113 ++ l0) 0) else (none))) = some (r1, r2) := by rw [if_neg (show ¬ (false = true) by decide)] at H; exact H
    clear H
    have H := H1
    clear H1
    obtain ⟨y113, hy113⟩ : ∃ y_ : List (S60), y_ = (([] : List (S60))) := ⟨_, rfl⟩
    replace H : (if y113.length + l0.length < 8796093022208 then (spec_Burnt.l0 kj2 l1 (y113 ++ l0) 0) else (none)) = some (r1, r2) := by first | (rw [hy113]; with_reducible exact H) | (have H2_ := (Option.bind_some _ _).symm.trans H; rw [hy113]; with_reducible exact H2_) | (have H2_ := (Option.bind_some _ _).symm.trans H; with_reducible exact H2_) | with_reducible exact H | (rw [hy113]; exact H) | exact H
    have Ny113 := mk_ hy113; clear hy113; by_cases c9 : y113.length + l0.length < 8796093022208
    ·rw [if_pos c9] at H; have LMc9 := mk_ c9; clear c9
     obtain ⟨y116, hy116⟩ : ∃ y_ : List (S60), y_ = (y113 ++ l0) := ⟨_, rfl⟩
     replace H : (spec_Burnt.l0 kj2 l1 y116 0) = some (r1, r2) := by first | (rw [hy116]; with_reducible exact H) | (have H2_ := (Option.bind_some _ _).symm.trans H; rw [hy116]; with_reducible exact H2_) | (have H2_ := (Option.bind_some _ _).symm.trans H; with_reducible exact H2_) | with_reducible exact H | (rw [hy116]; exact H) | exact H
     have Ny116 := mk_ hy116; clear hy116
     have H' := mk_ H
     clear H
     go_wp2_with (first | ((with_reducible refine gd_ 18 rfl ?_); (try (refine gate_guard (by rfl) ?_; dsimp only)); refine Kd.R_lit k60 _ 60 ?hg (N := 18) ?hd (xs := ([] : List (S60))) (inner := []) (ok := fun _ => True) (okp := fun _ => True) ?hr ?hp (fun _ hk => hk) trivial (Below.refl _ _) (Nat.le_refl _) (by simp) ?_; (case hd => rfl); (case hg => rfl); (case hr => exact hr_); (case hp => exact (Reps.none _ _)); intro v114 w10 ho11 hb hg_ hnew_; clear hg_ hnew_; (first | rw [← Ny113.out] at ho11 | (simp only [Int.reduceToNat] at ho11; rw [← Ny113.out] at ho11)); have HO115 := mk_ (Kd.R_lower ho11 (below_size (by exact HB.out))); replace HB := bp_ HB hb; clear hb ho11) | ((with_reducible refine gate_builtin (b := .append) (xs := #[.tmp 18, .tmp 19]) rfl ?_); (try (refine gate_guard (by rfl) ?_; dsimp only)); at_builtin; refine Kd.R_append_rows k60 (w0 := w) w.heap.size rfl (.tmp 18) (.tmp 19) 37 60 (.agg #[(.int .i64 0), (.int .i64 0)]) 16 rfl Try.underlying37 info60 rfl (by decide) (by omega) v114 y113 l0 _ _ _ (fun _ => True) (fun _ => False) rfl rfl ?aO ?aR (fun _ _ h => h) (fun _ h => h.elim) ?aF ?aB ?aS ?aL ?_; (case aR => exact cw_ (Kd.C_below HR0.out HB.out)); (case aB => exact (by exact HB.out)); (case aF => exact (fun _ _ => trivial)); (case aO => exact (by exact HO115.out)); (case aS => exact (below_size (by exact HB.out))); (case aL => have := LMc9.out; omega); intro v117 w12 ho hb hg hat; rw [← Ny116.out] at ho; replace HB := mk_ (hb); have HO118 := mk_ (ho); clear HO115; clear ho hb hg hat))
     go_loopg [7] kj2 (fun kq v7 w' => ∃ (x6_2 : List (S60)) (x7_2 : Int), v7 = .int .i64 x7_2 ∧ Aside0 (spec_Burnt.l0 kq l1 x6_2 x7_2 = some (r1, r2)) ∧ Aside0 (kq ≤ kj2) ∧ Aside0 (Kd.R k60 60 w' w.heap.size (fun _ => True) v117 x6_2) ∧ Aside0 (Below w.heap.size w w'))
     case atStart => exact ⟨(y116), (0), rf_, H', ⟨Nat.le_refl _⟩, kw_ HO118, ⟨hw_ HB⟩⟩
     case round =>
      clear H'; (try clear c1); (try clear c6); (try clear c9)
      obtain ⟨x6_2, x7_2, rfl, HA, HK2, HO_6, HB⟩ := hrel
      cases gk with
      | zero => exact absurd HA.out (by simp [spec_Burnt.l0])
      | succ k2 =>
       have H := HA.out; clear HA
       simp only [spec_Burnt.l0] at H
       by_cases c13 : x7_2 < (l1.length : Int)
       ·rw [if_pos c13] at H; have c13b0 : decide (x7_2 < (l1.length : Int)) = true := decide_eq_true c13; clear c13; by_cases c14 : 0 ≤ x7_2
        ·rw [if_pos c14] at H; have c14b0 : decide (0 ≤ x7_2) = true := decide_eq_true c14; clear c14; replace H := Option.bind_eq_some_iff.mp H; obtain ⟨t121, A150, H⟩ := H
         replace H : (if t121 = true then ((spec_l1In.f ((rd_T62 l1 x7_2).f1) 1 10000).bind fun t122 => (if t122 = true then (if 0 ≤ ((rd_T62 l1 x7_2).f0) then (if ((rd_T62 l1 x7_2).f0) < (x6_2.length : Int) then (if ((rd_T60 x6_2 ((rd_T62 l1 x7_2).f0)).f0) < ((rd_T62 l1 x7_2).f1) then (some (x6_2, x7_2)) else (spec_Burnt.l0 k2 l1 (x6_2.set (((rd_T62 l1 x7_2).f0) : Int).toNat (⟨wrap64 (((rd_T60 x6_2 ((rd_T62 l1 x7_2).f0)).f0) - ((rd_T62 l1 x7_2).f1)), (rd_T60 x6_2 ((rd_T62 l1 x7_2).f0)).f1⟩ : S60)) (wrap64 (x7_2 + 1)))) else (none)) else (none)) else (some (x6_2, x7_2)))) else (some (x6_2, x7_2))) = some (r1, r2) := H
         have A15 := mk_ A150; clear A150; by_cases c16 : t121 = true
         ·subst c16
          have H1 : ((spec_l1In.f ((rd_T62 l1 x7_2).f1) 1 10000).bind fun t122 => (if t122 = true then (if 0 ≤ ((rd_T62 l1 x7_2).f0) then (if ((rd_T62 l1 x7_2).f0) < (x6_2.length : Int) then (if ((rd_T60 x6_2 ((rd_T62 l1 x7_2).f0)).f0) < ((rd_T62 l1 x7_2).f1) then (some (x6_2, x7_2)) else (spec_Burnt.l0 k2 l1 (x6_2.set (((rd_T62 l1 x7_2).f0) : Int).toNat (⟨wrap64 (((rd_T60 x6_2 ((rd_T62 l1 x7_2).f0)).f0) - ((rd_T62 l1 x7_2).f1)), (rd_T60 x6_2 ((rd_T62 l1 x7_2).f0)).f1⟩ : S60)) (wrap64 (x7_2 + 1)))) else (none)) else (none)) else (some (x6_2, x7_2)))) = some (r1, r2) := by rw [if_pos rfl] at H; exact H
          clear H
          have H := H1
          clear H1; replace H := Option.bind_eq_some_iff.mp H; obtain ⟨t122, A170, H⟩ := H
          replace H : (if t122 = true then (if 0 ≤ ((rd_T62 l1 x7_2).f0) then (if ((rd_T62 l1 x7_2).f0) < (x6_2.length : Int) then (if ((rd_T60 x6_2 ((rd_T62 l1 x7_2).f0)).f0) < ((rd_T62 l1 x7_2).f1) then (some (x6_2, x7_2)) else (spec_Burnt.l0 k2 l1 (x6_2.set (((rd_T62 l1 x7_2).f0) : Int).toNat (⟨wrap64 (((rd_T60 x6_2 ((rd_T62 l1 x7_2).f0)).f0) - ((rd_T62 l1 x7_2).f1)), (rd_T60 x6_2 ((rd_T62 l1 x7_2).f0)).f1⟩ : S60)) (wrap64 (x7_2 + 1)))) else (none)) else (none)) else (some (x6_2, x7_2))) = some (r1, r2) := H
          have A17 := mk_ A170; clear A170; by_cases c18 : t122 = true
          ·subst c18
           have H1 : (if 0 ≤ ((rd_T62 l1 x7_2).f0) then (if ((rd_T62 l1 x7_2).f0) < (x6_2.length : Int) then (if ((rd_T60 x6_2 ((rd_T62 l1 x7_2).f0)).f0) < ((rd_T62 l1 x7_2).f1) then (some (x6_2, x7_2)) else (spec_Burnt.l0 k2 l1 (x6_2.set (((rd_T62 l1 x7_2).f0) : Int).toNat (⟨wrap64 (((rd_T60 x6_2 ((rd_T62 l1 x7_2).f0)).f0) - ((rd_T62 l1 x7_2).f1)), (rd_T60 x6_2 ((rd_T62 l1 x7_2).f0)).f1⟩ : S60)) (wrap64 (x7_2 + 1)))) else (none)) else (none)) = some (r1, r2) := by rw [if_pos rfl] at H; exact H
           clear H
           have H := H1
           clear H1; by_cases c19 : 0 ≤ ((rd_T62 l1 x7_2).f0)
           ·rw [if_pos c19] at H; have c19b0 : decide (0 ≤ ((rd_T62 l1 x7_2).f0)) = true := decide_eq_true c19; clear c19; by_cases c20 : ((rd_T62 l1 x7_2).f0) < (x6_2.length : Int)
            ·rw [if_pos c20] at H; have c20b0 : decide (((rd_T62 l1 x7_2).f0) < (x6_2.length : Int)) = true := decide_eq_true c20; clear c20; by_cases c21 : ((rd_T60 x6_2 ((rd_T62 l1 x7_2).f0)).f0) < ((rd_T62 l1 x7_2).f1)
             ·rw [if_pos c21] at H; have c21b0 : decide (((rd_T60 x6_2 ((rd_T62 l1 x7_2).f0)).f0) < ((rd_T62 l1 x7_2).f1)) = true := decide_eq_true c21; clear c21
              simp only [Option.some.injEq, Prod.mk.injEq] at H
              obtain ⟨rfl, rfl⟩ := H
              have p119 : 0 ≤ (x7_2 : Int) := od_
              have q119 : x7_2 < (l1.length : Int) := od_
              obtain ⟨ad119, e119, hx119_0, hx119_1⟩ := at_T62 HR1.out x7_2 p119 q119; cases e119
              replace hx119_0 := (HB.out.cell (World.block_lt_of_cell? w _ hx119_0)).trans hx119_0
              replace hx119_1 := (HB.out.cell (World.block_lt_of_cell? w _ hx119_1)).trans hx119_1
              replace p119 := eq_true p119; replace q119 := eq_true q119
              try go_wp2_with (first | ((with_reducible refine gd_ 8 rfl ?_); (try (refine gate_guard (by rfl) ?_; dsimp only)); refine box_event ?hg (N := 8) ?hd (cs := #[.int .i64 0, .int .i64 0]) (t := 62) ?hr ?_; (case hd => rfl); (case hg => rfl); (case hr => exact hr_); intro gb120 hg w22 hbox hb; replace HO_6 := rb_ HO_6 hb; have BK120 := mk_ (hbox); have GW120 := gb_ hg HB; replace HB := bp_ HB hb; have GE120 := GW120; clear hb hbox hg; have hcz23_0 := bc0_ BK120; have hcz23_1 := bc1_ BK120; have hfz23_0 := bf_ BK120 0; have hfz23_1 := bf_ BK120 1))
              have n0_ : Aside0 (Kd.R k60 60 ((w22.setCell ⟨gb120, 0, none⟩ (.int .i64 ((rd_T62 l1 x7_2).f0))).setCell ⟨gb120, 1, none⟩ (.int .i64 ((rd_T62 l1 x7_2).f1))) w.heap.size (fun _ => True) v117 x6_2) := ⟨by (with_reducible repeat (first | apply Kd.R_alloc | apply Kd.R_drewN | apply Kd.R_drew)); exact Kd.R_mono (Kd.R_far (p := ⟨gb120, 1, none⟩) (Kd.R_far (p := ⟨gb120, 0, none⟩) (Kd.R_types HO_6.out BK120.out (by decide)) (fun _ hk => hk.2) (.int .i64 ((rd_T62 l1 x7_2).f0))) (fun _ hk => hk.2) (.int .i64 ((rd_T62 l1 x7_2).f1))) (fun _ hk => trivial)⟩
              have n1_ : Aside0 (((w22.setCell ⟨gb120, 0, none⟩ (.int .i64 ((rd_T62 l1 x7_2).f0))).setCell ⟨gb120, 1, none⟩ (.int .i64 ((rd_T62 l1 x7_2).f1))).heap[gb120]? = some (.cells #[.int .i64 ((rd_T62 l1 x7_2).f0), .int .i64 ((rd_T62 l1 x7_2).f1)] 62 (0, 0))) := ⟨by (with_reducible repeat (first | refine blk_drewN ?_ _ | refine blk_drew ?_ | refine blk_alloc ?_ _)); refine blk_put (cs := #[.int .i64 ((rd_T62 l1 x7_2).f0), .int .i64 0]) ?_ 1 _ rfl; (with_reducible repeat (first | refine blk_drewN ?_ _ | refine blk_drew ?_ | refine blk_alloc ?_ _)); refine blk_put (cs := #[.int .i64 0, .int .i64 0]) ?_ 0 _ rfl; (with_reducible repeat (first | refine blk_drewN ?_ _ | refine blk_drew ?_ | refine blk_alloc ?_ _)); exact BK120.out⟩
              have n2_ : Aside0 (Below w.heap.size w ((w22.setCell ⟨gb120, 0, none⟩ (.int .i64 ((rd_T62 l1 x7_2).f0))).setCell ⟨gb120, 1, none⟩ (.int .i64 ((rd_T62 l1 x7_2).f1)))) := ⟨by repeat (first | (with_reducible first | exact HB.out | apply below_alloc | apply pw_below_drewN | apply below_drew1 | refine below_set ?_ GE120.out) | exact HB.out)⟩
              (try clear HO_6); (try clear BK120); (try clear HB)
              generalize ((w22.setCell ⟨gb120, 0, none⟩ (.int .i64 ((rd_T62 l1 x7_2).f0))).setCell ⟨gb120, 1, none⟩ (.int .i64 ((rd_T62 l1 x7_2).f1))) = w24 at n0_ n1_ n2_ ⊢
              have HO_6 := n0_
              have BK120 := n1_
              have HB := n2_
              clear n0_ n1_ n2_
              replace HO_6 := dR_ HO_6; replace BK120 := dB_ BK120; replace HB := dH_ HB
              obtain ⟨Ao26, co26, eo26⟩ := Kd.R_slice HO_6.out
              (first | subst eo26 | (injection eo26 with f1_ f2_ f3_; have f4_ := f1_.symm; have f5_ := f3_.symm; clear f1_ f2_ f3_; subst f4_; subst f5_))
              have p123 : 0 ≤ (((rd_T62 l1 x7_2).f0) : Int) := od_
              have q123 : ((rd_T62 l1 x7_2).f0) < (x6_2.length : Int) := od_
              obtain ⟨ad123, e123, hx123_0, hx123_1⟩ := at_T60 (rr_ HO_6) ((rd_T62 l1 x7_2).f0) p123 q123; cases e123; replace p123 := eq_true p123; replace q123 := eq_true q123
              refine start_ (n := 24) (S := fun w' => w'.cell? ⟨gb120, 0, none⟩ = some (.int .i64 ((rd_T62 l1 x7_2).f0)) ∧ w'.cell? ⟨gb120, 1, none⟩ = some (.int .i64 ((rd_T62 l1 x7_2).f1)) ∧ w'.cell? (ad123.add ((((rd_T62 l1 x7_2).f0)).toNat * 2)) = some (.int .i64 ((rd_T60 x6_2 ((rd_T62 l1 x7_2).f0)).f0)) ∧ w'.cell? ⟨(ad123.add ((((rd_T62 l1 x7_2).f0)).toNat * 2)).block, (ad123.add ((((rd_T62 l1 x7_2).f0)).toNat * 2)).off + 1, none⟩ = some (.int .i64 ((rd_T60 x6_2 ((rd_T62 l1 x7_2).f0)).f1))) (ds := []) (bs_ 24 0) (by kernel_rfl) rfl (by kernel_rfl) ⟨bc0_ BK120, bc1_ BK120, hx123_0, hx123_1⟩ (fun hHeld => ?_); refine with_tabW spec_Burnt.tab8 spec_Burnt.bits8 (fun HT_ HW_ => ?_)
              generalize w24.drew = w25 at HO_6 BK120 HB hx123_0 hx123_1 hHeld ⊢
              refine pu_ HT_ 0 31 (bs_ 24 1) ?_; refine pu_ HT_ 2 33 (bs_ 24 5) ?_; refine pu_ HT_ 3 34 (bs_ 24 13) ?_; refine pu_ HT_ 4 35 (bs_ 24 29) ?_; refine tk_ HT_ HW_ 1 32 (bs_ 24 31) hHeld ?_
              refine one_ (i := 5) (N := some 36) (bs_ 24 63) rfl rfl (one_of HT_.out (by kernel_rfl)) (by decide) (fun K hK => ?_)
              refine gs_ Try.func46 #[.int .i64 ((rd_T62 l1 x7_2).f0), .int .i64 0, .int .i64 (wrap64 ((x6_2.length : Int) - 1))] ?_
              with_reducible refine (spec_l1In.calls ((rd_T62 l1 x7_2).f0) 0 (wrap64 ((x6_2.length : Int) - 1)) true _ A15.out).mono ?_
              rintro e w' ⟨rfl, ⟨nd, rfl⟩⟩
              refine ⟨_, rfl, ?_⟩
              refine hK.out _ _ ⟨bc0_ BK120, bc1_ BK120, hHeld.2.2.1, hHeld.2.2.2⟩ (fun hHeld => ?_)
              clear hK K; refine nm_ ?_; refine pu_ HT_ 6 37 (bs_ 24 127) ?_; refine pu_ HT_ 7 38 (bs_ 24 255) ?_; refine pu_ HT_ 8 39 (bs_ 24 511) ?_; refine tk_ HT_ HW_ 9 40 (bs_ 24 1023) hHeld ?_
              refine one_ (i := 10) (N := some 41) (bs_ 24 2047) rfl rfl (one_of HT_.out (by kernel_rfl)) (by decide) (fun K hK => ?_)
              refine gs_ Try.func46 #[.int .i64 ((rd_T62 l1 x7_2).f1), .int .i64 1, .int .i64 10000] ?_
              with_reducible refine (spec_l1In.calls ((rd_T62 l1 x7_2).f1) 1 10000 true _ A17.out).mono ?_
              rintro e w' ⟨rfl, ⟨nd, rfl⟩⟩
              refine ⟨_, rfl, ?_⟩
              refine hK.out _ _ ⟨bc0_ BK120, bc1_ BK120, hHeld.2.2.1, hHeld.2.2.2⟩ (fun hHeld => ?_)
              clear hK K; refine nm_ ?_; refine pu_ HT_ 11 42 (bs_ 24 4095) ?_; refine pu_ HT_ 12 43 (bs_ 24 8191) ?_; refine pu_ HT_ 13 44 (bs_ 24 16383) ?_; refine pu_ HT_ 14 45 (bs_ 24 32767) ?_; refine pu_ HT_ 15 46 (bs_ 24 65535) ?_; refine pu_ HT_ 20 51 (bs_ 24 1114111) ?_; refine tk_ HT_ HW_ 16 47 (bs_ 24 1179647) hHeld ?_; refine pu_ HT_ 17 48 (bs_ 24 1310719) ?_; refine pu_ HT_ 18 49 (bs_ 24 1572863) ?_; refine tk_ HT_ HW_ 19 50 (bs_ 24 2097151) hHeld ?_; refine tk_ HT_ HW_ 21 52 (bs_ 24 4194303) hHeld ?_; refine pu_ HT_ 22 53 (bs_ 24 8388607) ?_; refine pu_ HT_ 23 54 (bs_ 24 16777215) ?_
              refine done_ (done_of HT_.out (by kernel_rfl)) ?_
              try go_wp2
              go_ret2
              exact ⟨_, re_, by (with_reducible repeat (first | apply Kd.R_alloc | apply Kd.R_drewN | apply Kd.R_drew)); exact HO_6.out, hw_ HB⟩
             ·rw [if_neg c21] at H; have c21b0 : decide (((rd_T60 x6_2 ((rd_T62 l1 x7_2).f0)).f0) < ((rd_T62 l1 x7_2).f1)) = false := decide_eq_false c21; clear c21
              obtain ⟨y125, hy125⟩ : ∃ y_ : List (S60), y_ = (x6_2.set (((rd_T62 l1 x7_2).f0) : Int).toNat (⟨wrap64 (((rd_T60 x6_2 ((rd_T62 l1 x7_2).f0)).f0) - ((rd_T62 l1 x7_2).f1)), (rd_T60 x6_2 ((rd_T62 l1 x7_2).f0)).f1⟩ : S60)) := ⟨_, rfl⟩
              replace H : (spec_Burnt.l0 k2 l1 y125 (wrap64 (x7_2 + 1))) = some (r1, r2) := by first | (rw [hy125]; with_reducible exact H) | (have H2_ := (Option.bind_some _ _).symm.trans H; rw [hy125]; with_reducible exact H2_) | (have H2_ := (Option.bind_some _ _).symm.trans H; with_reducible exact H2_) | with_reducible exact H | (rw [hy125]; exact H) | exact H
              have Ny125 := mk_ hy125; clear hy125
              have H' := mk_ H
              clear H
              have p119 : 0 ≤ (x7_2 : Int) := od_
              have q119 : x7_2 < (l1.length : Int) := od_
              obtain ⟨ad119, e119, hx119_0, hx119_1⟩ := at_T62 HR1.out x7_2 p119 q119; cases e119
              replace hx119_0 := (HB.out.cell (World.block_lt_of_cell? w _ hx119_0)).trans hx119_0
              replace hx119_1 := (HB.out.cell (World.block_lt_of_cell? w _ hx119_1)).trans hx119_1
              replace p119 := eq_true p119; replace q119 := eq_true q119
              try go_wp2_with (first | ((with_reducible refine gd_ 8 rfl ?_); (try (refine gate_guard (by rfl) ?_; dsimp only)); refine box_event ?hg (N := 8) ?hd (cs := #[.int .i64 0, .int .i64 0]) (t := 62) ?hr ?_; (case hd => rfl); (case hg => rfl); (case hr => exact hr_); intro gb120 hg w28 hbox hb; replace HO_6 := rb_ HO_6 hb; have BK120 := mk_ (hbox); have GW120 := gb_ hg HB; replace HB := bp_ HB hb; have GE120 := GW120; clear hb hbox hg; have hcz29_0 := bc0_ BK120; have hcz29_1 := bc1_ BK120; have hfz29_0 := bf_ BK120 0; have hfz29_1 := bf_ BK120 1))
              have n0_ : Aside0 (Kd.R k60 60 ((w28.setCell ⟨gb120, 0, none⟩ (.int .i64 ((rd_T62 l1 x7_2).f0))).setCell ⟨gb120, 1, none⟩ (.int .i64 ((rd_T62 l1 x7_2).f1))) w.heap.size (fun _ => True) v117 x6_2) := ⟨by (with_reducible repeat (first | apply Kd.R_alloc | apply Kd.R_drewN | apply Kd.R_drew)); exact Kd.R_mono (Kd.R_far (p := ⟨gb120, 1, none⟩) (Kd.R_far (p := ⟨gb120, 0, none⟩) (Kd.R_types HO_6.out BK120.out (by decide)) (fun _ hk => hk.2) (.int .i64 ((rd_T62 l1 x7_2).f0))) (fun _ hk => hk.2) (.int .i64 ((rd_T62 l1 x7_2).f1))) (fun _ hk => trivial)⟩
              have n1_ : Aside0 (((w28.setCell ⟨gb120, 0, none⟩ (.int .i64 ((rd_T62 l1 x7_2).f0))).setCell ⟨gb120, 1, none⟩ (.int .i64 ((rd_T62 l1 x7_2).f1))).heap[gb120]? = some (.cells #[.int .i64 ((rd_T62 l1 x7_2).f0), .int .i64 ((rd_T62 l1 x7_2).f1)] 62 (0, 0))) := ⟨by (with_reducible repeat (first | refine blk_drewN ?_ _ | refine blk_drew ?_ | refine blk_alloc ?_ _)); refine blk_put (cs := #[.int .i64 ((rd_T62 l1 x7_2).f0), .int .i64 0]) ?_ 1 _ rfl; (with_reducible repeat (first | refine blk_drewN ?_ _ | refine blk_drew ?_ | refine blk_alloc ?_ _)); refine blk_put (cs := #[.int .i64 0, .int .i64 0]) ?_ 0 _ rfl; (with_reducible repeat (first | refine blk_drewN ?_ _ | refine blk_drew ?_ | refine blk_alloc ?_ _)); exact BK120.out⟩
              have n2_ : Aside0 (Below w.heap.size w ((w28.setCell ⟨gb120, 0, none⟩ (.int .i64 ((rd_T62 l1 x7_2).f0))).setCell ⟨gb120, 1, none⟩ (.int .i64 ((rd_T62 l1 x7_2).f1)))) := ⟨by repeat (first | (with_reducible first | exact HB.out | apply below_alloc | apply pw_below_drewN | apply below_drew1 | refine below_set ?_ GE120.out) | exact HB.out)⟩
              (try clear HO_6); (try clear BK120); (try clear HB)
              generalize ((w28.setCell ⟨gb120, 0, none⟩ (.int .i64 ((rd_T62 l1 x7_2).f0))).setCell ⟨gb120, 1, none⟩ (.int .i64 ((rd_T62 l1 x7_2).f1))) = w30 at n0_ n1_ n2_ ⊢
              have HO_6 := n0_
              have BK120 := n1_
              have HB := n2_
              clear n0_ n1_ n2_
              replace HO_6 := dR_ HO_6; replace BK120 := dB_ BK120; replace HB := dH_ HB
              obtain ⟨Ao32, co32, eo32⟩ := Kd.R_slice HO_6.out
              (first | subst eo32 | (injection eo32 with f1_ f2_ f3_; have f4_ := f1_.symm; have f5_ := f3_.symm; clear f1_ f2_ f3_; subst f4_; subst f5_))
              have p123 : 0 ≤ (((rd_T62 l1 x7_2).f0) : Int) := od_
              have q123 : ((rd_T62 l1 x7_2).f0) < (x6_2.length : Int) := od_
              obtain ⟨ad123, e123, hx123_0, hx123_1⟩ := at_T60 (rr_ HO_6) ((rd_T62 l1 x7_2).f0) p123 q123; cases e123; replace p123 := eq_true p123; replace q123 := eq_true q123
              refine start_ (n := 24) (S := fun w' => w'.cell? ⟨gb120, 0, none⟩ = some (.int .i64 ((rd_T62 l1 x7_2).f0)) ∧ w'.cell? ⟨gb120, 1, none⟩ = some (.int .i64 ((rd_T62 l1 x7_2).f1)) ∧ w'.cell? (ad123.add ((((rd_T62 l1 x7_2).f0)).toNat * 2)) = some (.int .i64 ((rd_T60 x6_2 ((rd_T62 l1 x7_2).f0)).f0)) ∧ w'.cell? ⟨(ad123.add ((((rd_T62 l1 x7_2).f0)).toNat * 2)).block, (ad123.add ((((rd_T62 l1 x7_2).f0)).toNat * 2)).off + 1, none⟩ = some (.int .i64 ((rd_T60 x6_2 ((rd_T62 l1 x7_2).f0)).f1))) (ds := []) (bs_ 24 0) (by kernel_rfl) rfl (by kernel_rfl) ⟨bc0_ BK120, bc1_ BK120, hx123_0, hx123_1⟩ (fun hHeld => ?_); refine with_tabW spec_Burnt.tab8 spec_Burnt.bits8 (fun HT_ HW_ => ?_)
              generalize w30.drew = w31 at HO_6 BK120 HB hx123_0 hx123_1 hHeld ⊢
              refine pu_ HT_ 0 31 (bs_ 24 1) ?_; refine pu_ HT_ 2 33 (bs_ 24 5) ?_; refine pu_ HT_ 3 34 (bs_ 24 13) ?_; refine pu_ HT_ 4 35 (bs_ 24 29) ?_; refine tk_ HT_ HW_ 1 32 (bs_ 24 31) hHeld ?_
              refine one_ (i := 5) (N := some 36) (bs_ 24 63) rfl rfl (one_of HT_.out (by kernel_rfl)) (by decide) (fun K hK => ?_)
              refine gs_ Try.func46 #[.int .i64 ((rd_T62 l1 x7_2).f0), .int .i64 0, .int .i64 (wrap64 ((x6_2.length : Int) - 1))] ?_
              with_reducible refine (spec_l1In.calls ((rd_T62 l1 x7_2).f0) 0 (wrap64 ((x6_2.length : Int) - 1)) true _ A15.out).mono ?_
              rintro e w' ⟨rfl, ⟨nd, rfl⟩⟩
              refine ⟨_, rfl, ?_⟩
              refine hK.out _ _ ⟨bc0_ BK120, bc1_ BK120, hHeld.2.2.1, hHeld.2.2.2⟩ (fun hHeld => ?_)
              clear hK K; refine nm_ ?_; refine pu_ HT_ 6 37 (bs_ 24 127) ?_; refine pu_ HT_ 7 38 (bs_ 24 255) ?_; refine pu_ HT_ 8 39 (bs_ 24 511) ?_; refine tk_ HT_ HW_ 9 40 (bs_ 24 1023) hHeld ?_
              refine one_ (i := 10) (N := some 41) (bs_ 24 2047) rfl rfl (one_of HT_.out (by kernel_rfl)) (by decide) (fun K hK => ?_)
              refine gs_ Try.func46 #[.int .i64 ((rd_T62 l1 x7_2).f1), .int .i64 1, .int .i64 10000] ?_
              with_reducible refine (spec_l1In.calls ((rd_T62 l1 x7_2).f1) 1 10000 true _ A17.out).mono ?_
              rintro e w' ⟨rfl, ⟨nd, rfl⟩⟩
              refine ⟨_, rfl, ?_⟩
              refine hK.out _ _ ⟨bc0_ BK120, bc1_ BK120, hHeld.2.2.1, hHeld.2.2.2⟩ (fun hHeld => ?_)
              clear hK K; refine nm_ ?_; refine pu_ HT_ 11 42 (bs_ 24 4095) ?_; refine pu_ HT_ 12 43 (bs_ 24 8191) ?_; refine pu_ HT_ 13 44 (bs_ 24 16383) ?_; refine pu_ HT_ 14 45 (bs_ 24 32767) ?_; refine pu_ HT_ 15 46 (bs_ 24 65535) ?_; refine pu_ HT_ 20 51 (bs_ 24 1114111) ?_; refine tk_ HT_ HW_ 16 47 (bs_ 24 1179647) hHeld ?_; refine pu_ HT_ 17 48 (bs_ 24 1310719) ?_; refine pu_ HT_ 18 49 (bs_ 24 1572863) ?_; refine tk_ HT_ HW_ 19 50 (bs_ 24 2097151) hHeld ?_; refine tk_ HT_ HW_ 21 52 (bs_ 24 4194303) hHeld ?_; refine pu_ HT_ 22 53 (bs_ 24 8388607) ?_; refine pu_ HT_ 23 54 (bs_ 24 16777215) ?_
              refine done_ (done_of HT_.out (by kernel_rfl)) ?_
              try go_wp2
              (first | (rw [World.drewN_drewN]; (repeat rw [World.drewN_drewN]); generalize hq_ : World.drewN w31 _ = w31; have n0_ : Aside0 (Kd.R k60 60 w31 w.heap.size (fun k_ => True) (.slice (some ad123) x6_2.length co32) x6_2) := ⟨by rw [← hq_]; exact (kx_ HO_6)⟩; have n1_ : Aside0 (w31.heap[gb120]? = some (.cells #[.int .i64 ((rd_T62 l1 x7_2).f0), .int .i64 ((rd_T62 l1 x7_2).f1)] 62 (0, 0))) := ⟨by rw [← hq_]; exact (bx_ BK120)⟩; have n2_ : Aside0 (Below w.heap.size w w31) := ⟨by rw [← hq_]; exact (hw_ HB)⟩; clear HO_6 BK120 HB hq_; have HO_6 := n0_; have BK120 := n1_; have HB := n2_; clear n0_ n1_ n2_) | (rw [(rfl : World.drewN w31 nd = World.drewN w31 nd)]; generalize hq_ : World.drewN w31 nd = w31; have n0_ : Aside0 (Kd.R k60 60 w31 w.heap.size (fun k_ => True) (.slice (some ad123) x6_2.length co32) x6_2) := ⟨by rw [← hq_]; exact (kx_ HO_6)⟩; have n1_ : Aside0 (w31.heap[gb120]? = some (.cells #[.int .i64 ((rd_T62 l1 x7_2).f0), .int .i64 ((rd_T62 l1 x7_2).f1)] 62 (0, 0))) := ⟨by rw [← hq_]; exact (bx_ BK120)⟩; have n2_ : Aside0 (Below w.heap.size w w31) := ⟨by rw [← hq_]; exact (hw_ HB)⟩; clear HO_6 BK120 HB hq_; have HO_6 := n0_; have BK120 := n1_; have HB := n2_; clear n0_ n1_ n2_) | (try (rw [drewN_self w31]; generalize hq_ : World.drewN w31 _ = w31; have n0_ := qR_ hq_ HO_6; have n1_ := qB_ hq_ BK120; have n2_ := qH_ hq_ HB; clear HO_6 BK120 HB hq_; have HO_6 := n0_; have BK120 := n1_; have HB := n2_; clear n0_ n1_ n2_)))
              replace HO_6 := dR_ HO_6; replace BK120 := dB_ BK120; replace HB := dH_ HB
              have p124 : 0 ≤ (((rd_T62 l1 x7_2).f0) : Int) := od_
              have q124 : ((rd_T62 l1 x7_2).f0) < (x6_2.length : Int) := od_
              obtain ⟨ad124, e124, hx124_0, hx124_1⟩ := at_T60 (rr_ HO_6) ((rd_T62 l1 x7_2).f0) p124 q124; obtain rfl : ad123 = ad124 := (by injection e124); replace p124 := eq_true p124; replace q124 := eq_true q124
              have p27 : 0 ≤ (((rd_T62 l1 x7_2).f0) : Int) := od_
              have q27 : (((rd_T62 l1 x7_2).f0) : Int) < ((x6_2.length : Int) : Int) := od_
              obtain ⟨go27, co27, eo27, gb27, gl27, cl27, HG27⟩ := Kd.R_form HO_6.out (by omega)
              (first | cases eo27 | (injection eo27 with ea_ en_ ec_; (first | subst ea_ | (injection ea_ with ea_; subst ea_)); subst ec_; clear en_))
              have GB27 := mk_ gb27; have GG27 := mk_ HG27; clear gb27 gl27 HG27
              (first | simp only [add_plain] at hx123_0 | skip)
              (first | simp only [add_plain] at hx123_1 | skip)
              (first | simp only [add_plain] at hx124_0 | skip)
              (first | simp only [add_plain] at hx124_1 | skip)
              obtain ⟨ce27, hcl27, hM27, hcc27, hfr27⟩ := Kd.R_elem HO_6.out z60 (((rd_T62 l1 x7_2).f0) : Int) p27 q27
              obtain rfl := k60_openM hM27
              have hx27_0 : World.cell? _ ⟨go27, (((rd_T62 l1 x7_2).f0) : Int).toNat * 2, none⟩ = some (.int .i64 ((rd_T60 x6_2 ((rd_T62 l1 x7_2).f0)).f0)) := hcc27 0 _ rfl
              have hx27_1 : World.cell? _ ⟨go27, (((rd_T62 l1 x7_2).f0) : Int).toNat * 2 + 1, none⟩ = some (.int .i64 ((rd_T60 x6_2 ((rd_T62 l1 x7_2).f0)).f1)) := hcc27 1 _ rfl
              have hf27_0 : World.frozen? _ ⟨go27, (((rd_T62 l1 x7_2).f0) : Int).toNat * 2, none⟩ = false := hfr27 0
              have hf27_1 : World.frozen? _ ⟨go27, (((rd_T62 l1 x7_2).f0) : Int).toNat * 2 + 1, none⟩ = false := hfr27 1
              clear hcl27 hcc27 hfr27; (try clear hM27); replace p27 := eq_true p27; replace q27 := eq_true q27
              obtain ⟨ce34, hcl34, hM34, hcc34, hfr34⟩ := Kd.R_elem HO_6.out z60 (((rd_T62 l1 x7_2).f0) : Int) (od_) (by have h_ : (((rd_T62 l1 x7_2).f0) : Int) < ((x6_2.length : Int) : Int) := od_; first | exact h_ | (have e_ := (Kd.R_reads' HO_6.out).1; omega) | simpa using h_)
              obtain rfl := k60_openM hM34
              have HP34 := (Kd.R_seg HO_6.out (((rd_T62 l1 x7_2).f0) : Int) (od_) (by have h_ : (((rd_T62 l1 x7_2).f0) : Int) < ((x6_2.length : Int) : Int) := od_; first | exact h_ | (have e_ := (Kd.R_reads' HO_6.out).1; omega) | simpa using h_) (seg := [.int .i64 (wrap64 (((rd_T60 x6_2 ((rd_T62 l1 x7_2).f0)).f0) - ((rd_T62 l1 x7_2).f1)))]) (j := 0) hcl34 hcc34 (show 1 ≤ 2 from by decide) (x' := (⟨wrap64 (((rd_T60 x6_2 ((rd_T62 l1 x7_2).f0)).f0) - ((rd_T62 l1 x7_2).f1)), (rd_T60 x6_2 ((rd_T62 l1 x7_2).f0)).f1⟩ : S60)) (k60_mkM _ _ _ (⟨wrap64 (((rd_T60 x6_2 ((rd_T62 l1 x7_2).f0)).f0) - ((rd_T62 l1 x7_2).f1)), (rd_T60 x6_2 ((rd_T62 l1 x7_2).f0)).f1⟩ : S60) ) (fun _ hk => hk)).1
              rw [← Ny125.out] at HP34
              have HQ34 := mk_ HP34; clear hcl34 hcc34 hfr34 HP34; (try clear hM34)
              refine start_ (n := 15) (S := fun w' => w'.cell? ⟨gb120, 0, none⟩ = some (.int .i64 ((rd_T62 l1 x7_2).f0)) ∧ w'.cell? ⟨gb120, 1, none⟩ = some (.int .i64 ((rd_T62 l1 x7_2).f1)) ∧ w'.cell? ⟨go27, ((((rd_T62 l1 x7_2).f0)).toNat * 2), none⟩ = some (.int .i64 ((rd_T60 x6_2 ((rd_T62 l1 x7_2).f0)).f0)) ∧ w'.cell? ⟨go27, ((((rd_T62 l1 x7_2).f0)).toNat * 2) + 1, none⟩ = some (.int .i64 ((rd_T60 x6_2 ((rd_T62 l1 x7_2).f0)).f1))) (ds := [14]) (bs_ 15 0) (by kernel_rfl) rfl (by kernel_rfl) ⟨bc0_ BK120, bc1_ BK120, hx124_0, hx124_1⟩ (fun hHeld => ?_); refine with_tabW spec_Burnt.tab10 spec_Burnt.bits10 (fun HT_ HW_ => ?_)
              generalize w31.drew = w33 at HO_6 BK120 HB GG27 HQ34 hf27_0 hf27_1 hx123_0 hx123_1 hx124_0 hx124_1 hx27_0 hx27_1 hHeld ⊢
              refine pu_ HT_ 0 57 (bs_ 15 1) ?_; refine pu_ HT_ 1 58 (bs_ 15 3) ?_; refine pu_ HT_ 3 60 (bs_ 15 11) ?_; refine pu_ HT_ 4 61 (bs_ 15 27) ?_; refine pu_ HT_ 9 66 (bs_ 15 539) ?_; refine tk_ HT_ HW_ 2 59 (bs_ 15 543) hHeld ?_; refine tk_ HT_ HW_ 5 62 (bs_ 15 575) hHeld ?_; refine pu_ HT_ 6 63 (bs_ 15 639) ?_; refine pu_ HT_ 7 64 (bs_ 15 767) ?_; refine tk_ HT_ HW_ 8 65 (bs_ 15 1023) hHeld ?_; refine tk_ HT_ HW_ 10 67 (bs_ 15 2047) hHeld ?_; refine pu_ HT_ 11 68 (bs_ 15 4095) ?_; refine pu_ HT_ 12 69 (bs_ 15 8191) ?_; refine pu_ HT_ 13 70 (bs_ 15 16383) ?_
              refine last_ (i := 14) (N := none) (bs_ 15 32767) rfl rfl (one_of HT_.out (by kernel_rfl)) (by decide) (fun K hK => ?_)
              refine skip_ (w1 := ?_) (by rfl) rfl ?_ ?_
              rotate_left
              ·go_simp
               rfl
              refine hK.out _ _ ?_
              clear hK K
              refine done_ (done_of HT_.out (by kernel_rfl)) ?_
              try go_wp2
              go_roundg k2
              case measure => have := HJ2.out; have := HK2.out; omega
              case rel => exact ⟨(y125), (wrap64 (x7_2 + 1)), rf_, H', ⟨by have := HJ2.out; have := HK2.out; omega⟩, kw_ HQ34, ⟨by repeat (first | (with_reducible first | exact HB.out | apply below_alloc | apply pw_below_drewN | apply below_drew1 | refine below_set ?_ GB27.out) | exact HB.out)⟩⟩
            ·rw [if_neg c20] at H
             exact absurd H (by simp)
           ·rw [if_neg c19] at H
            exact absurd H (by simp)
          ·replace c18 := Bool.eq_false_iff.mpr c18; subst c18
           have H1 : (some (x6_2, x7_2)) = some (r1, r2) := by rw [if_neg (show ¬ (false = true) by decide)] at H; exact H
           clear H
           have H := H1
           clear H1
           simp only [Option.some.injEq, Prod.mk.injEq] at H
           obtain ⟨rfl, rfl⟩ := H
           have p119 : 0 ≤ (x7_2 : Int) := od_
           have q119 : x7_2 < (l1.length : Int) := od_
           obtain ⟨ad119, e119, hx119_0, hx119_1⟩ := at_T62 HR1.out x7_2 p119 q119; cases e119
           replace hx119_0 := (HB.out.cell (World.block_lt_of_cell? w _ hx119_0)).trans hx119_0
           replace hx119_1 := (HB.out.cell (World.block_lt_of_cell? w _ hx119_1)).trans hx119_1
           replace p119 := eq_true p119; replace q119 := eq_true q119
           try go_wp2_with (first | ((with_reducible refine gd_ 8 rfl ?_); (try (refine gate_guard (by rfl) ?_; dsimp only)); refine box_event ?hg (N := 8) ?hd (cs := #[.int .i64 0, .int .i64 0]) (t := 62) ?hr ?_; (case hd => rfl); (case hg => rfl); (case hr => exact hr_); intro gb120 hg w35 hbox hb; replace HO_6 := rb_ HO_6 hb; have BK120 := mk_ (hbox); have GW120 := gb_ hg HB; replace HB := bp_ HB hb; have GE120 := GW120; clear hb hbox hg; have hcz36_0 := bc0_ BK120; have hcz36_1 := bc1_ BK120; have hfz36_0 := bf_ BK120 0; have hfz36_1 := bf_ BK120 1))
           have n0_ : Aside0 (Kd.R k60 60 ((w35.setCell ⟨gb120, 0, none⟩ (.int .i64 ((rd_T62 l1 x7_2).f0))).setCell ⟨gb120, 1, none⟩ (.int .i64 ((rd_T62 l1 x7_2).f1))) w.heap.size (fun _ => True) v117 x6_2) := ⟨by (with_reducible repeat (first | apply Kd.R_alloc | apply Kd.R_drewN | apply Kd.R_drew)); exact Kd.R_mono (Kd.R_far (p := ⟨gb120, 1, none⟩) (Kd.R_far (p := ⟨gb120, 0, none⟩) (Kd.R_types HO_6.out BK120.out (by decide)) (fun _ hk => hk.2) (.int .i64 ((rd_T62 l1 x7_2).f0))) (fun _ hk => hk.2) (.int .i64 ((rd_T62 l1 x7_2).f1))) (fun _ hk => trivial)⟩
           have n1_ : Aside0 (((w35.setCell ⟨gb120, 0, none⟩ (.int .i64 ((rd_T62 l1 x7_2).f0))).setCell ⟨gb120, 1, none⟩ (.int .i64 ((rd_T62 l1 x7_2).f1))).heap[gb120]? = some (.cells #[.int .i64 ((rd_T62 l1 x7_2).f0), .int .i64 ((rd_T62 l1 x7_2).f1)] 62 (0, 0))) := ⟨by (with_reducible repeat (first | refine blk_drewN ?_ _ | refine blk_drew ?_ | refine blk_alloc ?_ _)); refine blk_put (cs := #[.int .i64 ((rd_T62 l1 x7_2).f0), .int .i64 0]) ?_ 1 _ rfl; (with_reducible repeat (first | refine blk_drewN ?_ _ | refine blk_drew ?_ | refine blk_alloc ?_ _)); refine blk_put (cs := #[.int .i64 0, .int .i64 0]) ?_ 0 _ rfl; (with_reducible repeat (first | refine blk_drewN ?_ _ | refine blk_drew ?_ | refine blk_alloc ?_ _)); exact BK120.out⟩
           have n2_ : Aside0 (Below w.heap.size w ((w35.setCell ⟨gb120, 0, none⟩ (.int .i64 ((rd_T62 l1 x7_2).f0))).setCell ⟨gb120, 1, none⟩ (.int .i64 ((rd_T62 l1 x7_2).f1)))) := ⟨by repeat (first | (with_reducible first | exact HB.out | apply below_alloc | apply pw_below_drewN | apply below_drew1 | refine below_set ?_ GE120.out) | exact HB.out)⟩
           (try clear HO_6); (try clear BK120); (try clear HB)
           generalize ((w35.setCell ⟨gb120, 0, none⟩ (.int .i64 ((rd_T62 l1 x7_2).f0))).setCell ⟨gb120, 1, none⟩ (.int .i64 ((rd_T62 l1 x7_2).f1))) = w37 at n0_ n1_ n2_ ⊢
           have HO_6 := n0_
           have BK120 := n1_
           have HB := n2_
           clear n0_ n1_ n2_
           replace HO_6 := dR_ HO_6; replace BK120 := dB_ BK120; replace HB := dH_ HB
           obtain ⟨Ao39, co39, eo39⟩ := Kd.R_slice HO_6.out
           (first | subst eo39 | (injection eo39 with f1_ f2_ f3_; have f4_ := f1_.symm; have f5_ := f3_.symm; clear f1_ f2_ f3_; subst f4_; subst f5_))
           refine start_ (n := 24) (S := fun w' => w'.cell? ⟨gb120, 0, none⟩ = some (.int .i64 ((rd_T62 l1 x7_2).f0)) ∧ w'.cell? ⟨gb120, 1, none⟩ = some (.int .i64 ((rd_T62 l1 x7_2).f1))) (ds := []) (bs_ 24 0) (by kernel_rfl) rfl (by kernel_rfl) ⟨bc0_ BK120, bc1_ BK120⟩ (fun hHeld => ?_); refine with_tabW spec_Burnt.tab8 spec_Burnt.bits8 (fun HT_ HW_ => ?_)
           generalize w37.drew = w38 at HO_6 BK120 HB hHeld ⊢
           refine pu_ HT_ 0 31 (bs_ 24 1) ?_; refine pu_ HT_ 2 33 (bs_ 24 5) ?_; refine pu_ HT_ 3 34 (bs_ 24 13) ?_; refine pu_ HT_ 4 35 (bs_ 24 29) ?_; refine tk_ HT_ HW_ 1 32 (bs_ 24 31) hHeld ?_
           refine one_ (i := 5) (N := some 36) (bs_ 24 63) rfl rfl (one_of HT_.out (by kernel_rfl)) (by decide) (fun K hK => ?_)
           refine gs_ Try.func46 #[.int .i64 ((rd_T62 l1 x7_2).f0), .int .i64 0, .int .i64 (wrap64 ((x6_2.length : Int) - 1))] ?_
           with_reducible refine (spec_l1In.calls ((rd_T62 l1 x7_2).f0) 0 (wrap64 ((x6_2.length : Int) - 1)) true _ A15.out).mono ?_
           rintro e w' ⟨rfl, ⟨nd, rfl⟩⟩
           refine ⟨_, rfl, ?_⟩
           refine hK.out _ _ ⟨bc0_ BK120, bc1_ BK120⟩ (fun hHeld => ?_)
           clear hK K; refine nm_ ?_; refine pu_ HT_ 6 37 (bs_ 24 127) ?_; refine pu_ HT_ 7 38 (bs_ 24 255) ?_; refine pu_ HT_ 8 39 (bs_ 24 511) ?_; refine tk_ HT_ HW_ 9 40 (bs_ 24 1023) hHeld ?_
           refine one_ (i := 10) (N := some 41) (bs_ 24 2047) rfl rfl (one_of HT_.out (by kernel_rfl)) (by decide) (fun K hK => ?_)
           refine gs_ Try.func46 #[.int .i64 ((rd_T62 l1 x7_2).f1), .int .i64 1, .int .i64 10000] ?_
           with_reducible refine (spec_l1In.calls ((rd_T62 l1 x7_2).f1) 1 10000 false _ A17.out).mono ?_
           rintro e w' ⟨rfl, ⟨nd, rfl⟩⟩
           refine ⟨_, rfl, ?_⟩
           refine hK.out _ _ ⟨bc0_ BK120, bc1_ BK120⟩ (fun hHeld => ?_)
           clear hK K; refine nm_ ?_; refine pu_ HT_ 11 42 (bs_ 24 4095) ?_; refine pu_ HT_ 12 43 (bs_ 24 8191) ?_; refine pu_ HT_ 13 44 (bs_ 24 16383) ?_; refine pn_ HT_ 14 45 (bs_ 24 32767) ?_; refine pn_ HT_ 15 46 (bs_ 24 65535) ?_; refine pn_ HT_ 16 47 (bs_ 24 131071) ?_; refine pn_ HT_ 17 48 (bs_ 24 262143) ?_; refine pn_ HT_ 18 49 (bs_ 24 524287) ?_; refine pn_ HT_ 19 50 (bs_ 24 1048575) ?_; refine pn_ HT_ 20 51 (bs_ 24 2097151) ?_; refine pn_ HT_ 21 52 (bs_ 24 4194303) ?_; refine pn_ HT_ 22 53 (bs_ 24 8388607) ?_; refine pu_ HT_ 23 54 (bs_ 24 16777215) ?_
           refine done_ (done_of HT_.out (by kernel_rfl)) ?_
           try go_wp2
           go_ret2
           exact ⟨_, re_, by (with_reducible repeat (first | apply Kd.R_alloc | apply Kd.R_drewN | apply Kd.R_drew)); exact HO_6.out, hw_ HB⟩
         ·replace c16 := Bool.eq_false_iff.mpr c16; subst c16
          have H1 : (some (x6_2, x7_2)) = some (r1, r2) := by rw [if_neg (show ¬ (false = true) by decide)] at H; exact H
          clear H
          have H := H1
          clear H1
          simp only [Option.some.injEq, Prod.mk.injEq] at H
          obtain ⟨rfl, rfl⟩ := H
          have p119 : 0 ≤ (x7_2 : Int) := od_
          have q119 : x7_2 < (l1.length : Int) := od_
          obtain ⟨ad119, e119, hx119_0, hx119_1⟩ := at_T62 HR1.out x7_2 p119 q119; cases e119
          replace hx119_0 := (HB.out.cell (World.block_lt_of_cell? w _ hx119_0)).trans hx119_0
          replace hx119_1 := (HB.out.cell (World.block_lt_of_cell? w _ hx119_1)).trans hx119_1
          replace p119 := eq_true p119; replace q119 := eq_true q119
          try go_wp2_with (first | ((with_reducible refine gd_ 8 rfl ?_); (try (refine gate_guard (by rfl) ?_; dsimp only)); refine box_event ?hg (N := 8) ?hd (cs := #[.int .i64 0, .int .i64 0]) (t := 62) ?hr ?_; (case hd => rfl); (case hg => rfl); (case hr => exact hr_); intro gb120 hg w40 hbox hb; replace HO_6 := rb_ HO_6 hb; have BK120 := mk_ (hbox); have GW120 := gb_ hg HB; replace HB := bp_ HB hb; have GE120 := GW120; clear hb hbox hg; have hcz41_0 := bc0_ BK120; have hcz41_1 := bc1_ BK120; have hfz41_0 := bf_ BK120 0; have hfz41_1 := bf_ BK120 1))
          have n0_ : Aside0 (Kd.R k60 60 ((w40.setCell ⟨gb120, 0, none⟩ (.int .i64 ((rd_T62 l1 x7_2).f0))).setCell ⟨gb120, 1, none⟩ (.int .i64 ((rd_T62 l1 x7_2).f1))) w.heap.size (fun _ => True) v117 x6_2) := ⟨by (with_reducible repeat (first | apply Kd.R_alloc | apply Kd.R_drewN | apply Kd.R_drew)); exact Kd.R_mono (Kd.R_far (p := ⟨gb120, 1, none⟩) (Kd.R_far (p := ⟨gb120, 0, none⟩) (Kd.R_types HO_6.out BK120.out (by decide)) (fun _ hk => hk.2) (.int .i64 ((rd_T62 l1 x7_2).f0))) (fun _ hk => hk.2) (.int .i64 ((rd_T62 l1 x7_2).f1))) (fun _ hk => trivial)⟩
          have n1_ : Aside0 (((w40.setCell ⟨gb120, 0, none⟩ (.int .i64 ((rd_T62 l1 x7_2).f0))).setCell ⟨gb120, 1, none⟩ (.int .i64 ((rd_T62 l1 x7_2).f1))).heap[gb120]? = some (.cells #[.int .i64 ((rd_T62 l1 x7_2).f0), .int .i64 ((rd_T62 l1 x7_2).f1)] 62 (0, 0))) := ⟨by (with_reducible repeat (first | refine blk_drewN ?_ _ | refine blk_drew ?_ | refine blk_alloc ?_ _)); refine blk_put (cs := #[.int .i64 ((rd_T62 l1 x7_2).f0), .int .i64 0]) ?_ 1 _ rfl; (with_reducible repeat (first | refine blk_drewN ?_ _ | refine blk_drew ?_ | refine blk_alloc ?_ _)); refine blk_put (cs := #[.int .i64 0, .int .i64 0]) ?_ 0 _ rfl; (with_reducible repeat (first | refine blk_drewN ?_ _ | refine blk_drew ?_ | refine blk_alloc ?_ _)); exact BK120.out⟩
          have n2_ : Aside0 (Below w.heap.size w ((w40.setCell ⟨gb120, 0, none⟩ (.int .i64 ((rd_T62 l1 x7_2).f0))).setCell ⟨gb120, 1, none⟩ (.int .i64 ((rd_T62 l1 x7_2).f1)))) := ⟨by repeat (first | (with_reducible first | exact HB.out | apply below_alloc | apply pw_below_drewN | apply below_drew1 | refine below_set ?_ GE120.out) | exact HB.out)⟩
          (try clear HO_6); (try clear BK120); (try clear HB)
          generalize ((w40.setCell ⟨gb120, 0, none⟩ (.int .i64 ((rd_T62 l1 x7_2).f0))).setCell ⟨gb120, 1, none⟩ (.int .i64 ((rd_T62 l1 x7_2).f1))) = w42 at n0_ n1_ n2_ ⊢
          have HO_6 := n0_
          have BK120 := n1_
          have HB := n2_
          clear n0_ n1_ n2_
          replace HO_6 := dR_ HO_6; replace BK120 := dB_ BK120; replace HB := dH_ HB
          obtain ⟨Ao44, co44, eo44⟩ := Kd.R_slice HO_6.out
          (first | subst eo44 | (injection eo44 with f1_ f2_ f3_; have f4_ := f1_.symm; have f5_ := f3_.symm; clear f1_ f2_ f3_; subst f4_; subst f5_))
          refine start_ (n := 24) (S := fun w' => w'.cell? ⟨gb120, 0, none⟩ = some (.int .i64 ((rd_T62 l1 x7_2).f0)) ∧ w'.cell? ⟨gb120, 1, none⟩ = some (.int .i64 ((rd_T62 l1 x7_2).f1))) (ds := []) (bs_ 24 0) (by kernel_rfl) rfl (by kernel_rfl) ⟨bc0_ BK120, bc1_ BK120⟩ (fun hHeld => ?_); refine with_tabW spec_Burnt.tab8 spec_Burnt.bits8 (fun HT_ HW_ => ?_)
          generalize w42.drew = w43 at HO_6 BK120 HB hHeld ⊢
          refine pu_ HT_ 0 31 (bs_ 24 1) ?_; refine pu_ HT_ 2 33 (bs_ 24 5) ?_; refine pu_ HT_ 3 34 (bs_ 24 13) ?_; refine pu_ HT_ 4 35 (bs_ 24 29) ?_; refine tk_ HT_ HW_ 1 32 (bs_ 24 31) hHeld ?_
          refine one_ (i := 5) (N := some 36) (bs_ 24 63) rfl rfl (one_of HT_.out (by kernel_rfl)) (by decide) (fun K hK => ?_)
          refine gs_ Try.func46 #[.int .i64 ((rd_T62 l1 x7_2).f0), .int .i64 0, .int .i64 (wrap64 ((x6_2.length : Int) - 1))] ?_
          with_reducible refine (spec_l1In.calls ((rd_T62 l1 x7_2).f0) 0 (wrap64 ((x6_2.length : Int) - 1)) false _ A15.out).mono ?_
          rintro e w' ⟨rfl, ⟨nd, rfl⟩⟩
          refine ⟨_, rfl, ?_⟩
          refine hK.out _ _ ⟨bc0_ BK120, bc1_ BK120⟩ (fun hHeld => ?_)
          clear hK K; refine nm_ ?_; refine pu_ HT_ 6 37 (bs_ 24 127) ?_; refine pu_ HT_ 7 38 (bs_ 24 255) ?_; refine pn_ HT_ 8 39 (bs_ 24 511) ?_; refine pn_ HT_ 9 40 (bs_ 24 1023) ?_; refine pn_ HT_ 10 41 (bs_ 24 2047) ?_; refine pn_ HT_ 11 42 (bs_ 24 4095) ?_; refine pu_ HT_ 12 43 (bs_ 24 8191) ?_; refine pu_ HT_ 13 44 (bs_ 24 16383) ?_; refine pn_ HT_ 14 45 (bs_ 24 32767) ?_; refine pn_ HT_ 15 46 (bs_ 24 65535) ?_; refine pn_ HT_ 16 47 (bs_ 24 131071) ?_; refine pn_ HT_ 17 48 (bs_ 24 262143) ?_; refine pn_ HT_ 18 49 (bs_ 24 524287) ?_; refine pn_ HT_ 19 50 (bs_ 24 1048575) ?_; refine pn_ HT_ 20 51 (bs_ 24 2097151) ?_; refine pn_ HT_ 21 52 (bs_ 24 4194303) ?_; refine pn_ HT_ 22 53 (bs_ 24 8388607) ?_; refine pu_ HT_ 23 54 (bs_ 24 16777215) ?_
          refine done_ (done_of HT_.out (by kernel_rfl)) ?_
          try go_wp2
          go_ret2
          exact ⟨_, re_, by (with_reducible repeat (first | apply Kd.R_alloc | apply Kd.R_drewN | apply Kd.R_drew)); exact HO_6.out, hw_ HB⟩
        ·rw [if_neg c14] at H
         exact absurd H (by simp)
       ·rw [if_neg c13] at H; have c13b0 : decide (x7_2 < (l1.length : Int)) = false := decide_eq_false c13; clear c13
        simp only [Option.some.injEq, Prod.mk.injEq] at H
        obtain ⟨rfl, rfl⟩ := H; go_wp2
        go_ret2
        exact ⟨_, re_, by (with_reducible repeat (first | apply Kd.R_alloc | apply Kd.R_drewN | apply Kd.R_drew)); exact HO_6.out, hw_ HB⟩
    ·rw [if_neg c9] at H
     exact absurd H (by simp)

end Go.Proofs.Yteedbciobdcmaaa.QFnExactLeaves
-- squeezed
