/- Lean functions that tell what the Go functions used by one law answer, and for each a proof that the Go code comes to just these answers; no condition. Printed by this session's own program over the kit's printer. -/
import Derived.Test.YtkginilghcepbaaWSq
import Derived.Test.YtkginilghcepbaaQFnFlownx0
import Derived.Test.YtkginilghcepbaaQFnFlownx4
namespace Go.Proofs.Ytkginilghcepbaa.QFnFlown
open Go.RowKit Go.Proofs.YtkginilghcepbaaW.PrintWords Go.Proofs.YtkginilghcepbaaW.PrintLast Go.Proofs.YtkginilghcepbaaW.PrintMore
attribute [local go_sem] max2_int min2_int max_two min_two max_three min_three max_four min_four   -- for this text's walks alone
attribute [local go_sem high] go_eql go_neq go_lss go_leq go_gtr go_geq go_store   -- for this text's walks alone
set_option linter.unusedVariables false
set_option linter.unusedSimpArgs false

/-! ### spec_Fly: function 45 -/
mutual
def spec_Fly.j0 : Nat → List (Fl) → Fl → List (S60) → Bool → Fl → Fl → Fl → Fl → Fl → Fl → Fl → Fl → Fl → Option ((List (S60)) × Bool)
 | 0, _, _, _, _, _, _, _, _, _, _, _, _, _ => none
 | k + 1, x2, x3, q7, O7, j7, j8, j9, l1, h6, h7, h8, h9, j1 => if O7 = true then (some (q7, false)) else (spec_Fly.l0 k x2 x3 q7 0 j7 j8 j9 l1 h6 h7 h8 h9 j1)
def spec_Fly.l0 : Nat → List (Fl) → Fl → List (S60) → Int → Fl → Fl → Fl → Fl → Fl → Fl → Fl → Fl → Fl → Option ((List (S60)) × Bool)
 | 0, _, _, _, _, _, _, _, _, _, _, _, _, _ => none
 | k + 1, x2, x3, q7, B3, j7, j8, j9, l1, h6, h7, h8, h9, j1 => if B3 < (x2.length : Int) then (if 0 ≤ B3 then ((spec_StepOnce.f j7 j8 j9 l1 h6 h7 h8 h9 j1 (rdf .f64 x2 B3) x3).bind fun c9 => (if q7.length < 4398046511104 then (spec_Fly.l0 k x2 x3 (q7 ++ [(⟨c9.1, c9.2.1, c9.2.2.1, c9.2.2.2⟩ : S60)]) (wrap64 (B3 + 1)) c9.1 c9.2.1 c9.2.2.1 c9.2.2.2 h6 h7 h8 h9 j1) else (none))) else (none)) else (some (q7, true))
end
def spec_Fly.f (k : Nat) (a0_0 : Fl) (a0_1 : Fl) (a0_2 : Fl) (a0_3 : Fl) (a1_0 : Fl) (a1_1 : Fl) (a1_2 : Fl) (a1_3 : Fl) (a1_4 : Fl) (l2 : List (Fl)) (a3 : Fl) : Option ((List (S60)) × Bool) := (some (([] : List (S60)) : List (S60))).bind fun h4 => (if (l2.length : Int) > 400 then (spec_Fly.j0 k l2 a3 h4 true a0_0 a0_1 a0_2 a0_3 a1_0 a1_1 a1_2 a1_3 a1_4) else (spec_Fly.j0 k l2 a3 h4 (!(fcmp .gtr .f64 a3 (cn .f64 0))) a0_0 a0_1 a0_2 a0_3 a1_0 a1_1 a1_2 a1_3 a1_4))
theorem spec_Fly.mono_l : ∀ k, (∀ y0 y1 y2 y3 y4 y5 y6 y7 y8 y9 y10 y11 y12, LeO (spec_Fly.j0 k y0 y1 y2 y3 y4 y5 y6 y7 y8 y9 y10 y11 y12) (spec_Fly.j0 (k + 1) y0 y1 y2 y3 y4 y5 y6 y7 y8 y9 y10 y11 y12)) ∧ (∀ y0 y1 y2 y3 y4 y5 y6 y7 y8 y9 y10 y11 y12, LeO (spec_Fly.l0 k y0 y1 y2 y3 y4 y5 y6 y7 y8 y9 y10 y11 y12) (spec_Fly.l0 (k + 1) y0 y1 y2 y3 y4 y5 y6 y7 y8 y9 y10 y11 y12))
 | 0 => ⟨fun _ _ _ _ _ _ _ _ _ _ _ _ _ r h => by simp [spec_Fly.j0] at h, fun _ _ _ _ _ _ _ _ _ _ _ _ _ r h => by simp [spec_Fly.l0] at h⟩
 | k + 1 => by
  obtain ⟨l3, q0⟩ := spec_Fly.mono_l k
  refine ⟨?_, ?_⟩
  ·intro y0 y1 y2 y3 y4 y5 y6 y7 y8 y9 y10 y11 y12
   unfold spec_Fly.j0
   repeat' first
   | (with_reducible exact l3 _ _ _ _ _ _ _ _ _ _ _ _ _)
   | (with_reducible exact q0 _ _ _ _ _ _ _ _ _ _ _ _ _)
   | (with_reducible exact LeO.refl _)
   | (with_reducible exact LeO.none _)
   | (with_reducible refine LeO.ite ?_ ?_)
   | (with_reducible refine LeO.bind ?_ (fun _ => ?_))
   | exact l3 _ _ _ _ _ _ _ _ _ _ _ _ _
   | exact q0 _ _ _ _ _ _ _ _ _ _ _ _ _
   | exact LeO.none _
   | refine LeO.ite ?_ ?_
   | refine LeO.bind ?_ (fun _ => ?_)
  ·intro y0 y1 y2 y3 y4 y5 y6 y7 y8 y9 y10 y11 y12
   unfold spec_Fly.l0
   repeat' first
   | (with_reducible exact l3 _ _ _ _ _ _ _ _ _ _ _ _ _)
   | (with_reducible exact q0 _ _ _ _ _ _ _ _ _ _ _ _ _)
   | (with_reducible exact LeO.refl _)
   | (with_reducible exact LeO.none _)
   | (with_reducible refine LeO.ite ?_ ?_)
   | (with_reducible refine LeO.bind ?_ (fun _ => ?_))
   | exact l3 _ _ _ _ _ _ _ _ _ _ _ _ _
   | exact q0 _ _ _ _ _ _ _ _ _ _ _ _ _
   | exact LeO.none _
   | refine LeO.ite ?_ ?_
   | refine LeO.bind ?_ (fun _ => ?_)
theorem spec_Fly.mono : ∀ a0 a1 a2 a3 a4 a5 a6 a7 a8 a9 a10 k, LeO (spec_Fly.f k a0 a1 a2 a3 a4 a5 a6 a7 a8 a9 a10) (spec_Fly.f (k + 1) a0 a1 a2 a3 a4 a5 a6 a7 a8 a9 a10) := by
 intro a0 a1 a2 a3 a4 a5 a6 a7 a8 a9 a10 k
 obtain ⟨l3, q0⟩ := spec_Fly.mono_l k
 unfold spec_Fly.f
 repeat' first
   | (with_reducible exact l3 _ _ _ _ _ _ _ _ _ _ _ _ _)
   | (with_reducible exact q0 _ _ _ _ _ _ _ _ _ _ _ _ _)
   | (with_reducible exact LeO.refl _)
   | (with_reducible exact LeO.none _)
   | (with_reducible refine LeO.ite ?_ ?_)
   | (with_reducible refine LeO.bind ?_ (fun _ => ?_))
   | exact l3 _ _ _ _ _ _ _ _ _ _ _ _ _
   | exact q0 _ _ _ _ _ _ _ _ _ _ _ _ _
   | exact LeO.none _
   | refine LeO.ite ?_ ?_
   | refine LeO.bind ?_ (fun _ => ?_)
def spec_Fly.T7 : Bool × List (List Nat × List Nat) := (true, [([], []), ([], []), ([], []), ([], []), ([2, 3], [2, 3]), ([4], [4]), ([], []), ([0, 1, 5, 6], [0, 1, 5, 6]), ([7, 7, 0, 1, 2, 3, 4, 5, 6, 7], [7])])
def spec_Fly.B7 : List Nat := [0, 0, 0, 0, 12, 28, 0, 127, 255]
theorem spec_Fly.tab7 : rtab .any (opsOf Try.f45 7) = spec_Fly.T7 := by kernel_rfl
theorem spec_Fly.bits7 : waitsOk spec_Fly.T7.2 spec_Fly.B7 = true := by kernel_rfl
set_option maxHeartbeats 8000000 in
set_option maxRecDepth 100000 in
theorem spec_Fly.calls (k : Nat) (b_a0_0 : Nat) (a0_0 : Fl) (b_a0_1 : Nat) (a0_1 : Fl) (b_a0_2 : Nat) (a0_2 : Fl) (b_a0_3 : Nat) (a0_3 : Fl) (b_a1_0 : Nat) (a1_0 : Fl) (b_a1_1 : Nat) (a1_1 : Fl) (b_a1_2 : Nat) (a1_2 : Fl) (b_a1_3 : Nat) (a1_3 : Fl) (b_a1_4 : Nat) (a1_4 : Fl) (A2 : Option Addr) (c2 : Nat) (l2 : List (Fl)) (b_a3 : Nat) (a3 : Fl) (r1 : List (S60)) (r2 : Bool) (w : World) (hF_a0_0 : cn .f64 b_a0_0 = a0_0) (hF_a0_1 : cn .f64 b_a0_1 = a0_1) (hF_a0_2 : cn .f64 b_a0_2 = a0_2) (hF_a0_3 : cn .f64 b_a0_3 = a0_3) (hF_a1_0 : cn .f64 b_a1_0 = a1_0) (hF_a1_1 : cn .f64 b_a1_1 = a1_1) (hF_a1_2 : cn .f64 b_a1_2 = a1_2) (hF_a1_3 : cn .f64 b_a1_3 = a1_3) (hF_a1_4 : cn .f64 b_a1_4 = a1_4) (hr2 : Kd.C (Kd.fl .f64) w A2 l2.length l2) (hc2 : l2.length ≤ c2) (hF_a3 : cn .f64 b_a3 = a3) (h : spec_Fly.f k a0_0 a0_1 a0_2 a0_3 a1_0 a1_1 a1_2 a1_3 a1_4 l2 a3 = some (r1, r2)) :
  Calls Try.prog 45 #[.agg #[.float .f64 b_a0_0, .float .f64 b_a0_1, .float .f64 b_a0_2, .float .f64 b_a0_3], .agg #[.float .f64 b_a1_0, .float .f64 b_a1_1, .float .f64 b_a1_2, .float .f64 b_a1_3, .float .f64 b_a1_4], .slice A2 l2.length c2, .float .f64 b_a3] w fun e w' => ∃ v0_ : Value, e = .returned (.tuple #[v0_, .bool r2]) ∧ Kd.R k60 60 w' w.heap.size (fun _ => True) v0_ r1 ∧ Below w.heap.size w w' := by
 have s1 := Try.underlying60
 have H9 := Try.underlying88
 have O8 := mk_ hr2; have Q5 := mk_ hc2; clear hr2 hc2; have HB := mk_ (Below.refl w.heap.size w)
 have H : ((some (([] : List (S60)) : List (S60))).bind fun h4 => (if (l2.length : Int) > 400 then (spec_Fly.j0 k l2 a3 h4 true a0_0 a0_1 a0_2 a0_3 a1_0 a1_1 a1_2 a1_3 a1_4) else (spec_Fly.j0 k l2 a3 h4 (!(fcmp .gtr .f64 a3 (cn .f64 0))) a0_0 a0_1 a0_2 a0_3 a1_0 a1_1 a1_2 a1_3 a1_4))) = some (r1, r2) := h
 clear h
 obtain ⟨h4, l4⟩ : ∃ y_ : List (S60), y_ = (([] : List (S60))) := ⟨_, rfl⟩
 replace H : (if (l2.length : Int) > 400 then (spec_Fly.j0 k l2 a3 h4 true a0_0 a0_1 a0_2 a0_3 a1_0 a1_1 a1_2 a1_3 a1_4) else (spec_Fly.j0 k l2 a3 h4 (!(fcmp .gtr .f64 a3 (cn .f64 0))) a0_0 a0_1 a0_2 a0_3 a1_0 a1_1 a1_2 a1_3 a1_4)) = some (r1, r2) := by first | (rw [l4]; with_reducible exact H) | (have H2_ := (Option.bind_some _ _).symm.trans H; rw [l4]; with_reducible exact H2_) | (have H2_ := (Option.bind_some _ _).symm.trans H; with_reducible exact H2_) | with_reducible exact H | (rw [l4]; exact H) | exact H
 have p1 := mk_ l4; clear l4; have I0 := mk_ H; clear H
 go_enter Try.func45, Try.ntmps45
 go_upto_region 2 with (first | ((with_reducible refine gd_ 4 rfl ?_); refine box_event ?hg (N := 4) ?hd (cs := #[.float .f64 b_a0_0, .float .f64 b_a0_1, .float .f64 b_a0_2, .float .f64 b_a0_3]) (t := 60) ?hr ?_; (case hd => rfl); (case hg => rfl); (case hr => exact hr_); intro c6 hg w6 hbox hb; have b4 := mk_ (hbox); have s2 := gb_ hg HB; replace HB := bp_ HB hb; have p2 := s2; clear hb hbox hg) | ((with_reducible refine gd_ 5 rfl ?_); refine box_event ?hg (N := 5) ?hd (cs := #[.float .f64 b_a1_0, .float .f64 b_a1_1, .float .f64 b_a1_2, .float .f64 b_a1_3, .float .f64 b_a1_4]) (t := 88) ?hr ?_; (case hd => rfl); (case hg => rfl); (case hr => exact hr_); intro h5 hg w7 hbox hb; have b7 := mk_ (hbox); have s3 := gb_ hg HB; replace HB := bp_ HB hb; have M4 := s3; have d1 := nb_ hg b4; replace b4 := bl_ b4 hb; have c1 := ns_ d1; clear hb hbox hg) | ((with_reducible refine gd_ 12 rfl ?_); refine Kd.R_lit k60 _ 60 ?hg (N := 12) ?hd (xs := ([] : List (S60))) (inner := []) (ok := fun _ => True) (okp := fun _ => True) ?hr ?hp (fun _ hk => hk) trivial (Below.refl _ _) (Nat.le_refl _) (by simp) ?_; (case hd => rfl); (case hg => rfl); (case hr => exact hr_); (case hp => exact (Reps.none _ _)); intro v325 w8 s4 hb hg_ hnew_; clear hg_ hnew_; (first | rw [← p1.out] at s4 | (simp only [Int.reduceToNat] at s4; rw [← p1.out] at s4)); have p3 := mk_ (Kd.R_lower (Kd.R_newB s4 (g := c6) (o := .cells #[.float .f64 b_a0_0, .float .f64 b_a0_1, .float .f64 b_a0_2, .float .f64 b_a0_3] 60 (0, 0)) (by exact b4.out)) (below_size (by exact HB.out))); replace b4 := bl_ b4 hb; replace b7 := bl_ b7 hb; replace HB := bp_ HB hb; clear hb s4))
 (try simp only [Act.put, List.setIfInBounds_toArray, List.set_cons_zero, List.set_cons_succ])
 go_cut [20] (fun v20 wc => ∃ (kq : Nat) (m9 : Bool), v20 = .bool m9 ∧ Aside0 (spec_Fly.j0 kq l2 a3 h4 m9 a0_0 a0_1 a0_2 a0_3 a1_0 a1_1 a1_2 a1_3 a1_4 = some (r1, r2)) ∧ Aside0 (kq ≤ k) ∧ Aside0 (Kd.R k60 60 wc w.heap.size (fun k_ => k_ ≠ c6) v325 h4) ∧ Aside0 (wc.heap[c6]? = some (.cells #[.float .f64 b_a0_0, .float .f64 b_a0_1, .float .f64 b_a0_2, .float .f64 b_a0_3] 60 (0, 0))) ∧ Aside0 (wc.heap[h5]? = some (.cells #[.float .f64 b_a1_0, .float .f64 b_a1_1, .float .f64 b_a1_2, .float .f64 b_a1_3, .float .f64 b_a1_4] 88 (0, 0))) ∧ Aside0 (Below w.heap.size w wc))
 case first =>
  have H := I0.out; clear I0; by_cases q8 : (l2.length : Int) > 400
  ·rw [if_pos q8] at H; have l5 : decide (400 < (l2.length : Int)) = true := decide_eq_true q8; have s5 : decide (400 < l2.length) = true := decide_eq_true (by omega); clear q8
   (first | rw [l5] | (simp only [i64_w, i32_w]; rw [l5]) | skip)
   have H' := mk_ H
   clear H; go_wp2; go_meet
   case rel => exact ⟨_, (true), rf_, H', ⟨by first | omega | exact Nat.le_refl _⟩, km_ p3 (fun _ hk => hk.2), bw_ b4, bw_ b7, ⟨hw_ HB⟩⟩
  ·rw [if_neg q8] at H; have l5 : decide (400 < (l2.length : Int)) = false := decide_eq_false q8; have s5 : decide (400 < l2.length) = false := decide_eq_false (by omega); clear q8
   (first | rw [l5] | (simp only [i64_w, i32_w]; rw [l5]) | skip)
   have H' := mk_ H
   clear H; go_wp2; go_meet
   case rel => exact ⟨_, (!(fcmp .gtr .f64 a3 (cn .f64 0))), rf_, H', ⟨by first | omega | exact Nat.le_refl _⟩, km_ p3 (fun _ hk => hk.2), bw_ b4, bw_ b7, ⟨hw_ HB⟩⟩
 case rest =>
  clear I0; (try clear c2)
  obtain ⟨kq, m9, rfl, HA, M5, d3, b4, b7, HB⟩ := hcut
  cases kq with
  | zero => exact absurd HA.out (by simp [spec_Fly.j0])
  | succ kj4 =>
   have H := HA.out; clear HA
   simp only [spec_Fly.j0] at H
   by_cases s6 : m9 = true
   ·subst s6
    have H1 : (some (h4, false)) = some (r1, r2) := by rw [if_pos rfl] at H; exact H
    clear H
    have H := H1
    clear H1
    simp only [Option.some.injEq, Prod.mk.injEq] at H
    obtain ⟨rfl, rfl⟩ := H; go_wp2
    go_ret2
    exact ⟨_, re_, by (with_reducible repeat (first | apply Kd.R_alloc | apply Kd.R_drewN | apply Kd.R_drew)); exact Kd.R_mono d3.out (fun _ hk => trivial), hw_ HB⟩
   ·replace s6 := Bool.eq_false_iff.mpr s6; subst s6
    have H1 : (spec_Fly.l0 kj4 l2 a3 h4 0 a0_0 a0_1 a0_2 a0_3 a1_0 a1_1 a1_2 a1_3 a1_4) = some (r1, r2) := by rw [if_neg (show ¬ (false = true) by decide)] at H; exact H
    clear H
    have H := H1
    clear H1
    have H' := mk_ H
    clear H; go_wp2
    go_loopg [10, 11] kj4 (fun kq v10 v11 w' => ∃ (g6 : List (S60)) (d0 : Int) (d4 : Fl) (d5 : Fl) (d6 : Fl) (d7 : Fl) (b_x323000_2 : Nat) (b_x323001_2 : Nat) (b_x323002_2 : Nat) (b_x323003_2 : Nat), v11 = .int .i64 d0 ∧ Aside0 (spec_Fly.l0 kq l2 a3 g6 d0 d4 d5 d6 d7 a1_0 a1_1 a1_2 a1_3 a1_4 = some (r1, r2)) ∧ Aside0 (kq ≤ kj4) ∧ Aside0 (cn .f64 b_x323000_2 = d4) ∧ Aside0 (cn .f64 b_x323001_2 = d5) ∧ Aside0 (cn .f64 b_x323002_2 = d6) ∧ Aside0 (cn .f64 b_x323003_2 = d7) ∧ Aside0 (Kd.R k60 60 w' w.heap.size (fun k_ => k_ ≠ c6) v10 g6) ∧ Aside0 (w'.heap[c6]? = some (.cells #[.float .f64 b_x323000_2, .float .f64 b_x323001_2, .float .f64 b_x323002_2, .float .f64 b_x323003_2] 60 (0, 0))) ∧ Aside0 (w'.heap[h5]? = some (.cells #[.float .f64 b_a1_0, .float .f64 b_a1_1, .float .f64 b_a1_2, .float .f64 b_a1_3, .float .f64 b_a1_4] 88 (0, 0))) ∧ Aside0 (Below w.heap.size w w'))
    case atStart => exact ⟨(h4), (0), (a0_0), (a0_1), (a0_2), (a0_3), b_a0_0, b_a0_1, b_a0_2, b_a0_3, rf_, H', ⟨Nat.le_refl _⟩, ⟨hF_a0_0⟩, ⟨hF_a0_1⟩, ⟨hF_a0_2⟩, ⟨hF_a0_3⟩, kw_ d3, bw_ b4, bw_ b7, ⟨hw_ HB⟩⟩
    case round =>
     clear H'; (try clear c2); (try clear s6)
     obtain ⟨g6, d0, d4, d5, d6, d7, b_x323000_2, b_x323001_2, b_x323002_2, b_x323003_2, rfl, HA, M6, ⟨hF_x323000_2⟩, ⟨hF_x323001_2⟩, ⟨hF_x323002_2⟩, ⟨hF_x323003_2⟩, d3, b4, b7, HB⟩ := hrel
     cases gk with
     | zero => exact absurd HA.out (by simp [spec_Fly.l0])
     | succ k2 =>
      have H := HA.out; clear HA
      simp only [spec_Fly.l0] at H
      by_cases n7 : d0 < (l2.length : Int)
      ·rw [if_pos n7] at H; have n9 : decide (d0 < (l2.length : Int)) = true := decide_eq_true n7; clear n7; by_cases o9 : 0 ≤ d0
       ·rw [if_pos o9] at H; have s7 : decide (0 ≤ d0) = true := decide_eq_true o9; clear o9
        obtain ⟨fr327_0, g3⟩ : ∃ y_ : Fl, y_ = (rdf .f64 l2 d0) := ⟨_, rfl⟩
        replace H : ((spec_StepOnce.f d4 d5 d6 d7 a1_0 a1_1 a1_2 a1_3 a1_4 fr327_0 a3).bind fun c9 => (if g6.length < 4398046511104 then (spec_Fly.l0 k2 l2 a3 (g6 ++ [(⟨c9.1, c9.2.1, c9.2.2.1, c9.2.2.2⟩ : S60)]) (wrap64 (d0 + 1)) c9.1 c9.2.1 c9.2.2.1 c9.2.2.2 a1_0 a1_1 a1_2 a1_3 a1_4) else (none))) = some (r1, r2) := by first | (rw [g3]; with_reducible exact H) | (have H2_ := (Option.bind_some _ _).symm.trans H; rw [g3]; with_reducible exact H2_) | (have H2_ := (Option.bind_some _ _).symm.trans H; with_reducible exact H2_) | with_reducible exact H | (rw [g3]; exact H) | exact H
        have Nfr327_0 := mk_ g3; clear g3; replace H := Option.bind_eq_some_iff.mp H; obtain ⟨⟨l6, l7, l8, l9⟩, s8, H⟩ := H
        replace H : (if g6.length < 4398046511104 then (spec_Fly.l0 k2 l2 a3 (g6 ++ [(⟨l6, l7, l8, l9⟩ : S60)]) (wrap64 (d0 + 1)) l6 l7 l8 l9 a1_0 a1_1 a1_2 a1_3 a1_4) else (none)) = some (r1, r2) := H
        have O9 := mk_ s8; clear s8; by_cases o0 : g6.length < 4398046511104
        ·rw [if_pos o0] at H; have LMc15 := mk_ o0; clear o0
         obtain ⟨s9, m0⟩ : ∃ y_ : List (S60), y_ = (g6 ++ [(⟨l6, l7, l8, l9⟩ : S60)]) := ⟨_, rfl⟩
         replace H : (spec_Fly.l0 k2 l2 a3 s9 (wrap64 (d0 + 1)) l6 l7 l8 l9 a1_0 a1_1 a1_2 a1_3 a1_4) = some (r1, r2) := by first | (rw [m0]; with_reducible exact H) | (have H2_ := (Option.bind_some _ _).symm.trans H; rw [m0]; with_reducible exact H2_) | (have H2_ := (Option.bind_some _ _).symm.trans H; with_reducible exact H2_) | with_reducible exact H | (rw [m0]; exact H) | exact H
         have t0 := mk_ m0; clear m0
         have H' := mk_ H
         clear H
         try go_wp2
         replace d3 := dR_ d3; replace b4 := dB_ b4; replace b7 := dB_ b7; replace HB := dH_ HB
         have q1 : 0 ≤ (d0 : Int) := od_
         have q2 : d0 < (l2.length : Int) := od_
         obtain ⟨t1, b_fr327_0, I1, g9, hF327_0⟩ := Kd.at_fl O8.out d0 q1 q2
         have hw327_0 := g9
         have hF_fr327_0 := hF327_0.trans Nfr327_0.out.symm
         clear hF327_0; cases I1
         replace g9 := (HB.out.cell (World.block_lt_of_cell? w _ g9)).trans g9
         replace q1 := eq_true q1; replace q2 := eq_true q2
         refine start_ (n := 9) (S := fun w' => w'.cell? ⟨c6, 0, none⟩ = some (.float .f64 b_x323000_2) ∧ w'.cell? ⟨c6, 1, none⟩ = some (.float .f64 b_x323001_2) ∧ w'.cell? ⟨c6, 2, none⟩ = some (.float .f64 b_x323002_2) ∧ w'.cell? ⟨c6, 3, none⟩ = some (.float .f64 b_x323003_2) ∧ w'.cell? ⟨h5, 0, none⟩ = some (.float .f64 b_a1_0) ∧ w'.cell? ⟨h5, 1, none⟩ = some (.float .f64 b_a1_1) ∧ w'.cell? ⟨h5, 2, none⟩ = some (.float .f64 b_a1_2) ∧ w'.cell? ⟨h5, 3, none⟩ = some (.float .f64 b_a1_3) ∧ w'.cell? ⟨h5, 4, none⟩ = some (.float .f64 b_a1_4) ∧ w'.cell? (t1.add (d0).toNat) = some (.float .f64 b_fr327_0)) (ds := [8]) (bs_ 9 0) (by kernel_rfl) rfl (by kernel_rfl) ⟨bc0_ b4, bc1_ b4, bc2_ b4, bc3_ b4, bc0_ b7, bc1_ b7, bc2_ b7, bc3_ b7, bd_ b7 4, ((HB.out.cell (World.block_lt_of_cell? w _ hw327_0)).trans hw327_0)⟩ (fun hHeld => ?_); refine with_tabW spec_Fly.tab7 spec_Fly.bits7 (fun HT_ HW_ => ?_)
         generalize wr.drew = Q6 at d3 b4 b7 HB g9 hHeld ⊢
         refine pu_ HT_ 2 30 (bs_ 9 4) ?_; refine pu_ HT_ 3 31 (bs_ 9 12) ?_; refine pu_ HT_ 4 32 (bs_ 9 28) ?_; refine pu_ HT_ 6 34 (bs_ 9 92) ?_; refine tk_ HT_ HW_ 0 28 (bs_ 9 93) hHeld ?_; refine tk_ HT_ HW_ 1 29 (bs_ 9 95) hHeld ?_; refine tk_ HT_ HW_ 5 33 (bs_ 9 127) hHeld ?_
         refine one_ (i := 7) (N := some 35) (bs_ 9 255) rfl rfl (one_of HT_.out (by kernel_rfl)) (by decide) (fun K hK => ?_)
         refine gs_ Try.func88 #[.agg #[.float .f64 b_x323000_2, .float .f64 b_x323001_2, .float .f64 b_x323002_2, .float .f64 b_x323003_2], .agg #[.float .f64 b_a1_0, .float .f64 b_a1_1, .float .f64 b_a1_2, .float .f64 b_a1_3, .float .f64 b_a1_4], .float .f64 b_fr327_0, .float .f64 b_a3] ?_
         with_reducible refine (spec_StepOnce.calls b_x323000_2 d4 b_x323001_2 d5 b_x323002_2 d6 b_x323003_2 d7 b_a1_0 a1_0 b_a1_1 a1_1 b_a1_2 a1_2 b_a1_3 a1_3 b_a1_4 a1_4 b_fr327_0 fr327_0 b_a3 a3 l6 l7 l8 l9 _ ?d8 ?h2 ?t2 ?t3 ?t4 ?t5 ?t6 ?t7 ?t8 ?q3 ?q4 O9.out).mono ?_
         (case d8 => exact hF_x323000_2)
         (case h2 => exact hF_x323001_2)
         (case t2 => exact hF_x323002_2)
         (case t3 => exact hF_x323003_2)
         (case t4 => exact hF_a1_0)
         (case t5 => exact hF_a1_1)
         (case t6 => exact hF_a1_2)
         (case t7 => exact hF_a1_3)
         (case t8 => exact hF_a1_4)
         (case q3 => exact hF_fr327_0)
         (case q4 => exact hF_a3)
         rintro e B4 ⟨d2, g2, g8, j2, rfl, n0, n1, n2, n3, hb⟩
         refine ⟨_, rfl, ?_⟩
         replace d3 := rk_ d3 hb; replace b4 := bk_ b4 hb; replace b7 := bk_ b7 hb; replace HB := hk_ HB hb
         (try clear hb); (try clear Q7); (try clear hk); (try clear hi)
         refine hK.out _ _ ⟨bc0_ b4, bc1_ b4, bc2_ b4, bc3_ b4, bc0_ b7, bc1_ b7, bc2_ b7, bc3_ b7, bd_ b7 4, ((HB.out.cell (World.block_lt_of_cell? w _ hw327_0)).trans hw327_0)⟩ (fun hHeld => ?_)
         clear hK K; refine nm_ 35 ?_
         refine last_ (i := 8) (N := none) (bs_ 9 511) rfl rfl (one_of HT_.out (by kernel_rfl)) (by decide) (fun K hK => ?_)
         have P0 : B4.cell? ⟨c6, 0, none⟩ = some (.float .f64 b_x323000_2) := bc0_ b4
         have M7 := blk_frozen b4.out 0
         have B5 := c1.out; have B6 := d1.out
         have P1 : B4.cell? ⟨c6, 1, none⟩ = some (.float .f64 b_x323001_2) := bc1_ b4
         have M8 := blk_frozen b4.out 1
         have B8 := c1.out; have B9 := d1.out
         have P2 : B4.cell? ⟨c6, 2, none⟩ = some (.float .f64 b_x323002_2) := bc2_ b4
         have M9 := blk_frozen b4.out 2
         have C0 := c1.out; have C1 := d1.out
         have P3 : B4.cell? ⟨c6, 3, none⟩ = some (.float .f64 b_x323003_2) := bc3_ b4
         have N0 := blk_frozen b4.out 3
         have C2 := c1.out; have C3 := d1.out
         refine skip_ (w1 := ?_) (by rfl) rfl ?_ ?_
         rotate_left
         ·go_simp
          rfl
         refine hK.out _ _ ?_
         clear hK K
         refine done_ (done_of HT_.out (by kernel_rfl)) ?_
         have N1 := d1.out; have N2 := c1.out
         have C4 := bc0_ b4; have C5 := bc1_ b4; have C6 := bc2_ b4; have C7 := bc3_ b4; have C8 := bf_ b4 0; have C9 := bf_ b4 1; have D0 := bf_ b4 2; have D1 := bf_ b4 3
         try go_wp2_with (first | ((with_reducible refine gate_builtin (b := .append) (xs := #[.tmp 36, .tmp 38]) rfl ?_); at_builtin; refine Kd.R_append k60 (w0 := w) w.heap.size rfl (.tmp 36) (.tmp 38) 61 60 (.agg #[(.float .f64 0), (.float .f64 0), (.float .f64 0), (.float .f64 0)]) 32 rfl Try.underlying61 info60 rfl (by decide) (by omega) u10 g6 (⟨l6, l7, l8, l9⟩ : S60) [.float .f64 d2, .float .f64 g2, .float .f64 g8, .float .f64 j2] (fun k_ => k_ ≠ c6) (fun _ => False) rfl (by first | (go_simp; done) | (go_simp; rfl)) ?aP (fun _ hk => hk.elim) ?aF ?aO ?aB ?aS ?aL ?_; (case aP => exact k60_mkM _ _ _ (⟨l6, l7, l8, l9⟩ : S60) n0 n1 n2 n3); (case aB => exact (by repeat (first | (with_reducible first | exact HB.out | apply below_alloc | apply pw_below_drewN | apply below_drew1 | refine below_set ?_ p2.out) | exact HB.out))); (case aF => exact (fun k_ hk => Kd.freshB (g := c6) (o := .cells #[.float .f64 d2, .float .f64 g2, .float .f64 g8, .float .f64 j2] 60 (0, 0)) (by (with_reducible repeat (first | refine blk_drewN ?_ _ | refine blk_drew ?_ | refine blk_alloc ?_ _)); refine blk_put (cs := #[.float .f64 d2, .float .f64 g2, .float .f64 g8, .float .f64 b_x323003_2]) ?_ 3 _ rfl; (with_reducible repeat (first | refine blk_drewN ?_ _ | refine blk_drew ?_ | refine blk_alloc ?_ _)); refine blk_put (cs := #[.float .f64 d2, .float .f64 g2, .float .f64 b_x323002_2, .float .f64 b_x323003_2]) ?_ 2 _ rfl; (with_reducible repeat (first | refine blk_drewN ?_ _ | refine blk_drew ?_ | refine blk_alloc ?_ _)); refine blk_put (cs := #[.float .f64 d2, .float .f64 b_x323001_2, .float .f64 b_x323002_2, .float .f64 b_x323003_2]) ?_ 1 _ rfl; (with_reducible repeat (first | refine blk_drewN ?_ _ | refine blk_drew ?_ | refine blk_alloc ?_ _)); refine blk_put (cs := #[.float .f64 b_x323000_2, .float .f64 b_x323001_2, .float .f64 b_x323002_2, .float .f64 b_x323003_2]) ?_ 0 _ rfl; (with_reducible repeat (first | refine blk_drewN ?_ _ | refine blk_drew ?_ | refine blk_alloc ?_ _)); exact b4.out) k_ hk)); (case aO => exact (by (with_reducible repeat (first | apply Kd.R_alloc | apply Kd.R_drewN | apply Kd.R_drew)); exact Kd.R_mono (Kd.R_far (p := ⟨c6, 3, none⟩) (Kd.R_far (p := ⟨c6, 2, none⟩) (Kd.R_far (p := ⟨c6, 1, none⟩) (Kd.R_far (p := ⟨c6, 0, none⟩) (Kd.R_mono d3.out (fun k_ hk => (⟨hk, hk⟩ : _ ∧ k_ ≠ c6))) (fun _ hk => hk.2) (.float .f64 d2)) (fun _ hk => hk.2) (.float .f64 g2)) (fun _ hk => hk.2) (.float .f64 g8)) (fun _ hk => hk.2) (.float .f64 j2)) (fun _ hk => hk.1))); (case aS => exact (below_size (by repeat (first | (with_reducible first | exact HB.out | apply below_alloc | apply pw_below_drewN | apply below_drew1 | refine below_set ?_ p2.out) | exact HB.out)))); (case aL => have := LMc15.out; omega); intro v333 Q8 ho hb hg hat; rw [← t0.out] at ho; replace b4 := mk_ (blk_grown (g := c6) (o := .cells #[.float .f64 d2, .float .f64 g2, .float .f64 g8, .float .f64 j2] 60 (0, 0)) (by (with_reducible repeat (first | refine blk_drewN ?_ _ | refine blk_drew ?_ | refine blk_alloc ?_ _)); refine blk_put (cs := #[.float .f64 d2, .float .f64 g2, .float .f64 g8, .float .f64 b_x323003_2]) ?_ 3 _ rfl; (with_reducible repeat (first | refine blk_drewN ?_ _ | refine blk_drew ?_ | refine blk_alloc ?_ _)); refine blk_put (cs := #[.float .f64 d2, .float .f64 g2, .float .f64 b_x323002_2, .float .f64 b_x323003_2]) ?_ 2 _ rfl; (with_reducible repeat (first | refine blk_drewN ?_ _ | refine blk_drew ?_ | refine blk_alloc ?_ _)); refine blk_put (cs := #[.float .f64 d2, .float .f64 b_x323001_2, .float .f64 b_x323002_2, .float .f64 b_x323003_2]) ?_ 1 _ rfl; (with_reducible repeat (first | refine blk_drewN ?_ _ | refine blk_drew ?_ | refine blk_alloc ?_ _)); refine blk_put (cs := #[.float .f64 b_x323000_2, .float .f64 b_x323001_2, .float .f64 b_x323002_2, .float .f64 b_x323003_2]) ?_ 0 _ rfl; (with_reducible repeat (first | refine blk_drewN ?_ _ | refine blk_drew ?_ | refine blk_alloc ?_ _)); exact b4.out) hg (Kd.R_away d3.out (fun _ hk => hk))); replace b7 := mk_ (blk_grown (g := h5) (o := .cells #[.float .f64 b_a1_0, .float .f64 b_a1_1, .float .f64 b_a1_2, .float .f64 b_a1_3, .float .f64 b_a1_4] 88 (0, 0)) (by (with_reducible repeat (first | refine blk_drewN ?_ _ | refine blk_drew ?_ | refine blk_alloc ?_ _)); refine blk_far ?_ c1.out _; (with_reducible repeat (first | refine blk_drewN ?_ _ | refine blk_drew ?_ | refine blk_alloc ?_ _)); refine blk_far ?_ c1.out _; (with_reducible repeat (first | refine blk_drewN ?_ _ | refine blk_drew ?_ | refine blk_alloc ?_ _)); refine blk_far ?_ c1.out _; (with_reducible repeat (first | refine blk_drewN ?_ _ | refine blk_drew ?_ | refine blk_alloc ?_ _)); refine blk_far ?_ c1.out _; (with_reducible repeat (first | refine blk_drewN ?_ _ | refine blk_drew ?_ | refine blk_alloc ?_ _)); exact b7.out) hg (Kd.R_ne d3.out b7.out (by decide))); replace HB := mk_ (hb); have t9 := mk_ (ho); clear d3; clear ho hb hg hat))
         go_roundg k2
         case measure => have := M5.out; have := M6.out; omega
         case rel => exact ⟨(s9), (wrap64 (d0 + 1)), (l6), (l7), (l8), (l9), d2, g2, g8, j2, rf_, H', ⟨by have := M5.out; have := M6.out; omega⟩, ⟨n0⟩, ⟨n1⟩, ⟨n2⟩, ⟨n3⟩, kw_ t9, bw_ b4, bw_ b7, ⟨hw_ HB⟩⟩
        ·rw [if_neg o0] at H
         exact absurd H (by simp)
       ·rw [if_neg o9] at H
        exact absurd H (by simp)
      ·rw [if_neg n7] at H; have n9 : decide (d0 < (l2.length : Int)) = false := decide_eq_false n7; clear n7
       simp only [Option.some.injEq, Prod.mk.injEq] at H
       obtain ⟨rfl, rfl⟩ := H; go_wp2
       go_ret2
       exact ⟨_, re_, by (with_reducible repeat (first | apply Kd.R_alloc | apply Kd.R_drewN | apply Kd.R_drew)); exact Kd.R_mono d3.out (fun _ hk => trivial), hw_ HB⟩

/-! ### laws_sameBits: function 46 -/
def laws_sameBits.f (a0 : Fl) (a1 : Fl) : Option (Bool) := if (fcmp .eql .f64 a0 a1) = true then (some true) else (if (fcmp .neq .f64 a0 a0) = true then (some (fcmp .neq .f64 a1 a1)) else (some false))
set_option maxHeartbeats 8000000 in
set_option maxRecDepth 100000 in
theorem laws_sameBits.calls (b_a0 : Nat) (a0 : Fl) (b_a1 : Nat) (a1 : Fl) (r : Bool) (w : World) (hF_a0 : cn .f64 b_a0 = a0) (hF_a1 : cn .f64 b_a1 = a1) (h : laws_sameBits.f a0 a1 = some r) :
  Calls Try.prog 46 #[.float .f64 b_a0, .float .f64 b_a1] w fun e w' => e = .returned (.bool r) ∧ Drawn0 w w' := by
 have H : (if (fcmp .eql .f64 a0 a1) = true then (some true) else (if (fcmp .neq .f64 a0 a0) = true then (some (fcmp .neq .f64 a1 a1)) else (some false))) = some r := h
 clear h; by_cases c3 : (fcmp .eql .f64 a0 a1) = true
 ·rw [if_pos c3] at H
  have o1 : (fcmp .eql .f64 a0 a1) = true := c3
  clear c3; obtain rfl := Option.some.inj H
  go_enter Try.func46, Try.ntmps46
  go_wp2; go_ret
  exact ⟨by first | rfl | (simp; done) | (simp [*]; done), by repeat (first | exact Drawn0.refl _ | apply Drawn0.step)⟩
 ·rw [if_neg c3] at H
  have o1 : (fcmp .eql .f64 a0 a1) = false := by simpa using c3
  clear c3; by_cases c4 : (fcmp .neq .f64 a0 a0) = true
  ·rw [if_pos c4] at H
   have A1 : (fcmp .neq .f64 a0 a0) = true := c4
   clear c4; obtain rfl := Option.some.inj H
   go_enter Try.func46, Try.ntmps46
   go_wp2; go_ret
   exact ⟨by first | rfl | (simp; done) | (simp [*]; done), by repeat (first | exact Drawn0.refl _ | apply Drawn0.step)⟩
  ·rw [if_neg c4] at H
   have A1 : (fcmp .neq .f64 a0 a0) = false := by simpa using c4
   clear c4; obtain rfl := Option.some.inj H
   go_enter Try.func46, Try.ntmps46
   go_wp2; go_ret
   exact ⟨by first | rfl | (simp; done) | (simp [*]; done), by repeat (first | exact Drawn0.refl _ | apply Drawn0.step)⟩

/-! ### impl_finite_1: function 103 -/
def impl_finite_1.f (a0 : Fl) : Option (Bool) := some (fcmp .neq .f64 (fop .sub .f64 a0 a0) (cn .f64 0))
set_option maxHeartbeats 8000000 in
set_option maxRecDepth 100000 in
theorem impl_finite_1.calls (b_a0 : Nat) (a0 : Fl) (r : Bool) (w : World) (hF_a0 : cn .f64 b_a0 = a0) (h : impl_finite_1.f a0 = some r) :
  Calls Try.prog 103 #[.float .f64 b_a0] w fun e w' => e = .returned (.bool r) ∧ Drawn0 w w' := by
 have H : (some (fcmp .neq .f64 (fop .sub .f64 a0 a0) (cn .f64 0))) = some r := h
 clear h
 obtain ⟨ft335, hft335⟩ : ∃ y_ : Fl, y_ = (fop .sub .f64 a0 a0) := ⟨_, rfl⟩
 replace H : (some (fcmp .neq .f64 ft335 (cn .f64 0))) = some r := by first | (rw [hft335]; with_reducible exact H) | (have H2_ := (Option.bind_some _ _).symm.trans H; rw [hft335]; with_reducible exact H2_) | (have H2_ := (Option.bind_some _ _).symm.trans H; with_reducible exact H2_) | with_reducible exact H | (rw [hft335]; exact H) | exact H
 have Nft335 := mk_ hft335; clear hft335; obtain rfl := Option.some.inj H
 go_enter Try.func103, Try.ntmps103
 go_wp2_with (first | ((with_reducible refine gd_ 5 rfl ?_); refine fop_event rfl (N := 5) rfl (op := .sub) (by simp) rfl .f64 b_a0 b_a0 a0 a0 rfl rfl hF_a0 hF_a0 ?_; intro b_ft335 nf_ hF_; replace hF_ := hF_.trans Nft335.out.symm; have hF_ft335 := hF_; clear hF_))
 go_ret
 exact ⟨by first | rfl | (simp; done) | (simp [*]; done), by repeat (first | exact Drawn0.refl _ | apply Drawn0.step)⟩

/-! ### slices_IndexFunc_float64_float64: function 72 -/
def slices_IndexFunc_float64_float64.l0 : Nat → List (Fl) → Int → Int → Option (Int)
 | 0, _, _, _ => none
 | k + 1, x0, x7, x8 => if x8 < x7 then (if 0 ≤ x8 then (if x8 < (x0.length : Int) then ((impl_finite_1.f (rdf .f64 x0 x8)).bind fun o2 => (if o2 = true then (some x8) else (slices_IndexFunc_float64_float64.l0 k x0 x7 (wrap64 (x8 + 1))))) else (none)) else (none)) else (some (-1))
def slices_IndexFunc_float64_float64.f (k : Nat) (l0 : List (Fl)) (a1 : Unit) : Option (Int) := slices_IndexFunc_float64_float64.l0 k l0 (l0.length : Int) 0
theorem slices_IndexFunc_float64_float64.mono_l : ∀ k, (∀ y0 y1 y2, LeO (slices_IndexFunc_float64_float64.l0 k y0 y1 y2) (slices_IndexFunc_float64_float64.l0 (k + 1) y0 y1 y2))
 | 0 => fun _ _ _ r h => by simp [slices_IndexFunc_float64_float64.l0] at h
 | k + 1 => by
  have l3 := slices_IndexFunc_float64_float64.mono_l k
  ·intro y0 y1 y2
   unfold slices_IndexFunc_float64_float64.l0
   repeat' first
   | (with_reducible exact l3 _ _ _)
   | (with_reducible exact LeO.refl _)
   | (with_reducible exact LeO.none _)
   | (with_reducible refine LeO.ite ?_ ?_)
   | (with_reducible refine LeO.bind ?_ (fun _ => ?_))
   | exact l3 _ _ _
   | exact LeO.none _
   | refine LeO.ite ?_ ?_
   | refine LeO.bind ?_ (fun _ => ?_)
theorem slices_IndexFunc_float64_float64.mono : ∀ a0 a1 k, LeO (slices_IndexFunc_float64_float64.f k a0 a1) (slices_IndexFunc_float64_float64.f (k + 1) a0 a1) := by
 intro a0 a1 k
 have l3 := slices_IndexFunc_float64_float64.mono_l k
 unfold slices_IndexFunc_float64_float64.f
 repeat' first
   | (with_reducible exact l3 _ _ _)
   | (with_reducible exact LeO.refl _)
   | (with_reducible exact LeO.none _)
   | (with_reducible refine LeO.ite ?_ ?_)
   | (with_reducible refine LeO.bind ?_ (fun _ => ?_))
   | exact l3 _ _ _
   | exact LeO.none _
   | refine LeO.ite ?_ ?_
   | refine LeO.bind ?_ (fun _ => ?_)
set_option maxHeartbeats 8000000 in
set_option maxRecDepth 100000 in
theorem slices_IndexFunc_float64_float64.calls (k : Nat) (A0 : Option Addr) (c0 : Nat) (l0 : List (Fl)) (a1 : Unit) (r : Int) (w : World) (hr0 : Kd.C (Kd.fl .f64) w A0 l0.length l0) (hc0 : l0.length ≤ c0) (h : slices_IndexFunc_float64_float64.f k l0 a1 = some r) :
  Calls Try.prog 72 #[.slice A0 l0.length c0, .func (.func 103) #[] #[]] w fun e w' => e = .returned (.int .i64 r) ∧ Drawn0 w w' := by
 have q9 := mk_ hr0; have D2 := mk_ hc0; clear hr0 hc0
 have H : (slices_IndexFunc_float64_float64.l0 k l0 (l0.length : Int) 0) = some r := h
 clear h
 have H' := mk_ H
 clear H
 go_enter Try.func72, Try.ntmps72
 go_wp2
 go_loopg [8] k (fun kq v8 w' => ∃ (d9 : Int), v8 = .int .i64 d9 ∧ Aside0 (slices_IndexFunc_float64_float64.l0 kq l0 (l0.length : Int) d9 = some r) ∧ Aside0 (kq ≤ k) ∧ Drawn0 w w')
 case atStart => exact ⟨(0), rf_, H', ⟨Nat.le_refl _⟩, by repeat (first | exact Drawn0.refl _ | apply Drawn0.step)⟩
 case round =>
  clear H'
  obtain ⟨d9, rfl, HA, A5, ⟨m1, rfl⟩⟩ := hrel
  cases gk with
  | zero => exact absurd HA.out (by simp [slices_IndexFunc_float64_float64.l0])
  | succ k1 =>
   have H := HA.out; clear HA
   simp only [slices_IndexFunc_float64_float64.l0] at H
   by_cases c3 : d9 < (l0.length : Int)
   ·rw [if_pos c3] at H; have o1 : decide (d9 < (l0.length : Int)) = true := decide_eq_true c3; clear c3; by_cases c4 : 0 ≤ d9
    ·rw [if_pos c4] at H; have A1 : decide (0 ≤ d9) = true := decide_eq_true c4; clear c4; by_cases c5 : d9 < (l0.length : Int)
     ·rw [if_pos c5] at H; have P4 : decide (d9 < (l0.length : Int)) = true := decide_eq_true c5; clear c5
      obtain ⟨fr336_0, g4⟩ : ∃ y_ : Fl, y_ = (rdf .f64 l0 d9) := ⟨_, rfl⟩
      replace H : ((impl_finite_1.f fr336_0).bind fun o2 => (if o2 = true then (some d9) else (slices_IndexFunc_float64_float64.l0 k1 l0 (l0.length : Int) (wrap64 (d9 + 1))))) = some r := by first | (rw [g4]; with_reducible exact H) | (have H2_ := (Option.bind_some _ _).symm.trans H; rw [g4]; with_reducible exact H2_) | (have H2_ := (Option.bind_some _ _).symm.trans H; with_reducible exact H2_) | with_reducible exact H | (rw [g4]; exact H) | exact H
      have Nfr336_0 := mk_ g4; clear g4; replace H := Option.bind_eq_some_iff.mp H; obtain ⟨o2, N3, H⟩ := H; (try dsimp only at H); have A6 := mk_ N3; clear N3; by_cases c7 : o2 = true
      ·subst c7; rw [if_pos rfl] at H
       obtain rfl := Option.some.inj H
       have m7 : 0 ≤ (d9 : Int) := od_
       have m8 : d9 < (l0.length : Int) := od_
       obtain ⟨A7, b_fr336_0, q5, p0, hF336_0⟩ := Kd.at_fl q9.out d9 m7 m8
       have hF_fr336_0 := hF336_0.trans Nfr336_0.out.symm
       clear hF336_0; cases q5; replace m7 := eq_true m7; replace m8 := eq_true m8
       go_wp2_with (first | (go_at_call 103; (with_reducible refine (impl_finite_1.calls b_fr336_0 fr336_0 true _ ?d8 A6.out).mono ?_); (case d8 => exact hF_fr336_0); rintro e w' ⟨rfl, ⟨nd, rfl⟩⟩))
       go_ret
       exact ⟨by first | rfl | (simp; done) | (simp [*]; done), by repeat (first | exact Drawn0.refl _ | apply Drawn0.step)⟩
      ·replace c7 := Bool.eq_false_iff.mpr c7; subst c7; rw [if_neg (show ¬ (false = true) by decide)] at H
       have H' := mk_ H
       clear H
       have m7 : 0 ≤ (d9 : Int) := od_
       have m8 : d9 < (l0.length : Int) := od_
       obtain ⟨A7, b_fr336_0, q5, p0, hF336_0⟩ := Kd.at_fl q9.out d9 m7 m8
       have hF_fr336_0 := hF336_0.trans Nfr336_0.out.symm
       clear hF336_0; cases q5; replace m7 := eq_true m7; replace m8 := eq_true m8
       go_wp2_with (first | (go_at_call 103; (with_reducible refine (impl_finite_1.calls b_fr336_0 fr336_0 false _ ?d8 A6.out).mono ?_); (case d8 => exact hF_fr336_0); rintro e w' ⟨rfl, ⟨nd, rfl⟩⟩))
       go_roundg k1
       case measure => have := A5.out; omega
       case rel => exact ⟨(wrap64 (d9 + 1)), rf_, H', ⟨by have := A5.out; omega⟩, by repeat (first | exact Drawn0.refl _ | apply Drawn0.step)⟩
     ·rw [if_neg c5] at H
      exact absurd H (by simp)
    ·rw [if_neg c4] at H
     exact absurd H (by simp)
   ·rw [if_neg c3] at H; have o1 : decide (d9 < (l0.length : Int)) = false := decide_eq_false c3; clear c3; obtain rfl := Option.some.inj H; go_wp2; go_ret
    exact ⟨by first | rfl | (simp; done) | (simp [*]; done), by repeat (first | exact Drawn0.refl _ | apply Drawn0.step)⟩

/-! ### slices_ContainsFunc_float64_float64: function 102 -/
def slices_ContainsFunc_float64_float64.f (k : Nat) (l0 : List (Fl)) (a1 : Unit) : Option (Bool) := (slices_IndexFunc_float64_float64.f k l0 a1).bind fun o3 => (some (decide (o3 ≥ 0)))
theorem slices_ContainsFunc_float64_float64.mono : ∀ a0 a1 k, LeO (slices_ContainsFunc_float64_float64.f k a0 a1) (slices_ContainsFunc_float64_float64.f (k + 1) a0 a1) := by
 intro a0 a1 k
 unfold slices_ContainsFunc_float64_float64.f
 repeat' first
   | (with_reducible exact slices_IndexFunc_float64_float64.mono _ _ _)
   | (with_reducible exact LeO.refl _)
   | (with_reducible exact LeO.none _)
   | (with_reducible refine LeO.ite ?_ ?_)
   | (with_reducible refine LeO.bind ?_ (fun _ => ?_))
   | exact slices_IndexFunc_float64_float64.mono _ _ _
   | exact LeO.none _
   | refine LeO.ite ?_ ?_
   | refine LeO.bind ?_ (fun _ => ?_)
set_option maxHeartbeats 8000000 in
set_option maxRecDepth 100000 in
theorem slices_ContainsFunc_float64_float64.calls (k : Nat) (A0 : Option Addr) (c0 : Nat) (l0 : List (Fl)) (a1 : Unit) (r : Bool) (w : World) (hr0 : Kd.C (Kd.fl .f64) w A0 l0.length l0) (hc0 : l0.length ≤ c0) (h : slices_ContainsFunc_float64_float64.f k l0 a1 = some r) :
  Calls Try.prog 102 #[.slice A0 l0.length c0, .func (.func 103) #[] #[]] w fun e w' => e = .returned (.bool r) ∧ Drawn0 w w' := by
 have q9 := mk_ hr0; have D2 := mk_ hc0; clear hr0 hc0
 have H : ((slices_IndexFunc_float64_float64.f k l0 a1).bind fun o3 => (some (decide (o3 ≥ 0)))) = some r := h
 clear h; replace H := Option.bind_eq_some_iff.mp H; obtain ⟨o3, N4, H⟩ := H; (try dsimp only at H); have A3 := mk_ N4; clear N4; obtain rfl := Option.some.inj H
 go_enter Try.func102, Try.ntmps102
 go_wp2_with (first | ((with_reducible refine gc_ 72 rfl ?_); refine gl_ (some 7) rfl Try.func72 #[.slice A0 l0.length c0, .func (.func 103) #[] #[]] ?_; (with_reducible refine (slices_IndexFunc_float64_float64.calls k _ _ l0 a1 o3 _ ?d8 ?h2 A3.out).mono ?_); (case d8 => exact cw_ q9.out); (case h2 => exact D2.out); rintro e w' ⟨rfl, ⟨nd, rfl⟩⟩; refine ⟨_, rfl, ?_⟩))
 go_ret
 exact ⟨by first | rfl | (simp; done) | (simp [*]; done), by repeat (first | exact Drawn0.refl _ | apply Drawn0.step)⟩

/-! ### impl_finite: function 89 -/
def impl_finite.f (k : Nat) (l0 : List (Fl)) : Option (Bool) := (slices_ContainsFunc_float64_float64.f k l0 ()).bind fun o4 => (some (!o4))
theorem impl_finite.mono : ∀ a0 k, LeO (impl_finite.f k a0) (impl_finite.f (k + 1) a0) := by
 intro a0 k
 unfold impl_finite.f
 repeat' first
   | (with_reducible exact slices_ContainsFunc_float64_float64.mono _ _ _)
   | (with_reducible exact LeO.refl _)
   | (with_reducible exact LeO.none _)
   | (with_reducible refine LeO.ite ?_ ?_)
   | (with_reducible refine LeO.bind ?_ (fun _ => ?_))
   | exact slices_ContainsFunc_float64_float64.mono _ _ _
   | exact LeO.none _
   | refine LeO.ite ?_ ?_
   | refine LeO.bind ?_ (fun _ => ?_)
set_option maxHeartbeats 8000000 in
set_option maxRecDepth 100000 in
theorem impl_finite.calls (k : Nat) (A0 : Option Addr) (c0 : Nat) (l0 : List (Fl)) (r : Bool) (w : World) (hr0 : Kd.C (Kd.fl .f64) w A0 l0.length l0) (hc0 : l0.length ≤ c0) (h : impl_finite.f k l0 = some r) :
  Calls Try.prog 89 #[.slice A0 l0.length c0] w fun e w' => e = .returned (.bool r) ∧ Drawn0 w w' := by
 have q9 := mk_ hr0; have D2 := mk_ hc0; clear hr0 hc0
 have H : ((slices_ContainsFunc_float64_float64.f k l0 ()).bind fun o4 => (some (!o4))) = some r := h
 clear h; replace H := Option.bind_eq_some_iff.mp H; obtain ⟨o4, N5, H⟩ := H; (try dsimp only at H); have A2 := mk_ N5; clear N5; obtain rfl := Option.some.inj H
 go_enter Try.func89, Try.ntmps89
 go_wp2_with (first | ((with_reducible refine gc_ 102 rfl ?_); refine gl_ (some 4) rfl Try.func102 #[.slice A0 l0.length c0, .func (.func 103) #[] #[]] ?_; (with_reducible refine (slices_ContainsFunc_float64_float64.calls k _ _ l0 () o4 _ ?d8 ?h2 A2.out).mono ?_); (case d8 => exact cw_ q9.out); (case h2 => exact D2.out); rintro e w' ⟨rfl, ⟨nd, rfl⟩⟩; refine ⟨_, rfl, ?_⟩))
 go_ret
 exact ⟨by first | rfl | (simp; done) | (simp [*]; done), by repeat (first | exact Drawn0.refl _ | apply Drawn0.step)⟩

/-! ### impl_Load5: function 48 -/
def impl_Load5.f (k : Nat) (a0_0 : Fl) (a0_1 : Fl) (a0_2 : Fl) (a0_3 : Fl) (a1_0 : Fl) (a1_1 : Fl) (a1_2 : Fl) (a1_3 : Fl) (a1_4 : Fl) : Option (Fl × Bool) := (some (fop .quo .f64 (fop .mul .f64 a1_2 (fop .mul .f64 a0_0 a0_0)) a1_4 : Fl)).bind fun ft344 => (if ((fcmp .gtr .f64 a1_4 (cn .f64 0)) = true) then ((impl_finite.f k (([ft344] : List (Fl)))).bind fun h3 => (if h3 = true then (some (ft344, true)) else (some ((cn .f64 0), false)))) else (some ((cn .f64 0), false)))
theorem impl_Load5.mono : ∀ a0 a1 a2 a3 a4 a5 a6 a7 a8 k, LeO (impl_Load5.f k a0 a1 a2 a3 a4 a5 a6 a7 a8) (impl_Load5.f (k + 1) a0 a1 a2 a3 a4 a5 a6 a7 a8) := by
 intro a0 a1 a2 a3 a4 a5 a6 a7 a8 k
 unfold impl_Load5.f
 repeat' first
   | (with_reducible exact impl_finite.mono _ _)
   | (with_reducible exact LeO.refl _)
   | (with_reducible exact LeO.none _)
   | (with_reducible refine LeO.ite ?_ ?_)
   | (with_reducible refine LeO.bind ?_ (fun _ => ?_))
   | exact impl_finite.mono _ _
   | exact LeO.none _
   | refine LeO.ite ?_ ?_
   | refine LeO.bind ?_ (fun _ => ?_)
set_option maxHeartbeats 8000000 in
set_option maxRecDepth 100000 in
theorem impl_Load5.calls (k : Nat) (b_a0_0 : Nat) (a0_0 : Fl) (b_a0_1 : Nat) (a0_1 : Fl) (b_a0_2 : Nat) (a0_2 : Fl) (b_a0_3 : Nat) (a0_3 : Fl) (b_a1_0 : Nat) (a1_0 : Fl) (b_a1_1 : Nat) (a1_1 : Fl) (b_a1_2 : Nat) (a1_2 : Fl) (b_a1_3 : Nat) (a1_3 : Fl) (b_a1_4 : Nat) (a1_4 : Fl) (r1 : Fl) (r2 : Bool) (w : World) (hF_a0_0 : cn .f64 b_a0_0 = a0_0) (hF_a0_1 : cn .f64 b_a0_1 = a0_1) (hF_a0_2 : cn .f64 b_a0_2 = a0_2) (hF_a0_3 : cn .f64 b_a0_3 = a0_3) (hF_a1_0 : cn .f64 b_a1_0 = a1_0) (hF_a1_1 : cn .f64 b_a1_1 = a1_1) (hF_a1_2 : cn .f64 b_a1_2 = a1_2) (hF_a1_3 : cn .f64 b_a1_3 = a1_3) (hF_a1_4 : cn .f64 b_a1_4 = a1_4) (h : impl_Load5.f k a0_0 a0_1 a0_2 a0_3 a1_0 a1_1 a1_2 a1_3 a1_4 = some (r1, r2)) :
  Calls Try.prog 48 #[.agg #[.float .f64 b_a0_0, .float .f64 b_a0_1, .float .f64 b_a0_2, .float .f64 b_a0_3], .agg #[.float .f64 b_a1_0, .float .f64 b_a1_1, .float .f64 b_a1_2, .float .f64 b_a1_3, .float .f64 b_a1_4]] w fun e w' => ∃ b_r1 : Nat, e = .returned (.tuple #[.float .f64 b_r1, .bool r2]) ∧ cn .f64 b_r1 = r1 ∧ Below w.heap.size w w' := by
 have s1 := Try.underlying60
 have H9 := Try.underlying88
 have HB := mk_ (Below.refl w.heap.size w)
 have H : ((some (fop .quo .f64 (fop .mul .f64 a1_2 (fop .mul .f64 a0_0 a0_0)) a1_4 : Fl)).bind fun ft344 => (if ((fcmp .gtr .f64 a1_4 (cn .f64 0)) = true) then ((impl_finite.f k (([ft344] : List (Fl)))).bind fun h3 => (if h3 = true then (some (ft344, true)) else (some ((cn .f64 0), false)))) else (some ((cn .f64 0), false)))) = some (r1, r2) := h
 clear h
 obtain ⟨ft342, hft342⟩ : ∃ y_ : Fl, y_ = (fop .mul .f64 a0_0 a0_0) := ⟨_, rfl⟩
 replace H : ((some (fop .quo .f64 (fop .mul .f64 a1_2 ft342) a1_4 : Fl)).bind fun ft344 => (if ((fcmp .gtr .f64 a1_4 (cn .f64 0)) = true) then ((impl_finite.f k (([ft344] : List (Fl)))).bind fun h3 => (if h3 = true then (some (ft344, true)) else (some ((cn .f64 0), false)))) else (some ((cn .f64 0), false)))) = some (r1, r2) := by first | (rw [hft342]; with_reducible exact H) | (have H2_ := (Option.bind_some _ _).symm.trans H; rw [hft342]; with_reducible exact H2_) | (have H2_ := (Option.bind_some _ _).symm.trans H; with_reducible exact H2_) | with_reducible exact H | (rw [hft342]; exact H) | exact H
 have Nft342 := mk_ hft342; clear hft342
 obtain ⟨ft343, hft343⟩ : ∃ y_ : Fl, y_ = (fop .mul .f64 a1_2 ft342) := ⟨_, rfl⟩
 replace H : ((some (fop .quo .f64 ft343 a1_4 : Fl)).bind fun ft344 => (if ((fcmp .gtr .f64 a1_4 (cn .f64 0)) = true) then ((impl_finite.f k (([ft344] : List (Fl)))).bind fun h3 => (if h3 = true then (some (ft344, true)) else (some ((cn .f64 0), false)))) else (some ((cn .f64 0), false)))) = some (r1, r2) := by first | (rw [hft343]; with_reducible exact H) | (have H2_ := (Option.bind_some _ _).symm.trans H; rw [hft343]; with_reducible exact H2_) | (have H2_ := (Option.bind_some _ _).symm.trans H; with_reducible exact H2_) | with_reducible exact H | (rw [hft343]; exact H) | exact H
 have Nft343 := mk_ hft343; clear hft343
 obtain ⟨ft344, hft344⟩ : ∃ y_ : Fl, y_ = (fop .quo .f64 ft343 a1_4) := ⟨_, rfl⟩
 replace H : (if ((fcmp .gtr .f64 a1_4 (cn .f64 0)) = true) then ((impl_finite.f k (([ft344] : List (Fl)))).bind fun h3 => (if h3 = true then (some (ft344, true)) else (some ((cn .f64 0), false)))) else (some ((cn .f64 0), false))) = some (r1, r2) := by first | (rw [hft344]; with_reducible exact H) | (have H2_ := (Option.bind_some _ _).symm.trans H; rw [hft344]; with_reducible exact H2_) | (have H2_ := (Option.bind_some _ _).symm.trans H; with_reducible exact H2_) | with_reducible exact H | (rw [hft344]; exact H) | exact H
 have Nft344 := mk_ hft344; clear hft344; by_cases c3 : ((fcmp .gtr .f64 a1_4 (cn .f64 0)) = true)
 ·rw [if_pos c3] at H
  have o1 : (fcmp .gtr .f64 a1_4 (cn .f64 0)) = true := c3
  clear c3
  obtain ⟨q6, m2⟩ : ∃ y_ : List (Fl), y_ = (([ft344] : List (Fl))) := ⟨_, rfl⟩
  replace H : ((impl_finite.f k q6).bind fun h3 => (if h3 = true then (some (ft344, true)) else (some ((cn .f64 0), false)))) = some (r1, r2) := by first | (rw [m2]; with_reducible exact H) | (have H2_ := (Option.bind_some _ _).symm.trans H; rw [m2]; with_reducible exact H2_) | (have H2_ := (Option.bind_some _ _).symm.trans H; with_reducible exact H2_) | with_reducible exact H | (rw [m2]; exact H) | exact H
  have n4 := mk_ m2; clear m2; replace H := Option.bind_eq_some_iff.mp H; obtain ⟨h3, N6, H⟩ := H
  replace H : (if h3 = true then (some (ft344, true)) else (some ((cn .f64 0), false))) = some (r1, r2) := H
  have A4 := mk_ N6; clear N6; by_cases c5 : h3 = true
  ·subst c5
   have H1 : (some (ft344, true)) = some (r1, r2) := by rw [if_pos rfl] at H; exact H
   clear H
   have H := H1
   clear H1
   simp only [Option.some.injEq, Prod.mk.injEq] at H
   obtain ⟨rfl, rfl⟩ := H
   go_enter Try.func48, Try.ntmps48
   go_wp2_with (first | ((with_reducible refine gd_ 2 rfl ?_); (try (refine gate_guard (by rfl) ?_; dsimp only)); refine box_event ?hg (N := 2) ?hd (cs := #[.float .f64 b_a0_0, .float .f64 b_a0_1, .float .f64 b_a0_2, .float .f64 b_a0_3]) (t := 60) ?hr ?_; (case hd => rfl); (case hg => rfl); (case hr => exact hr_); intro p4 hg w6 hbox hb; have b6 := mk_ (hbox); have m3 := gb_ hg HB; replace HB := bp_ HB hb; have p5 := m3; clear hb hbox hg) | ((with_reducible refine gd_ 3 rfl ?_); (try (refine gate_guard (by rfl) ?_; dsimp only)); refine box_event ?hg (N := 3) ?hd (cs := #[.float .f64 b_a1_0, .float .f64 b_a1_1, .float .f64 b_a1_2, .float .f64 b_a1_3, .float .f64 b_a1_4]) (t := 88) ?hr ?_; (case hd => rfl); (case hg => rfl); (case hr => exact hr_); intro m4 hg w7 hbox hb; have b5 := mk_ (hbox); have m5 := gb_ hg HB; replace HB := bp_ HB hb; have p6 := m5; have c8 := nb_ hg b6; replace b6 := bl_ b6 hb; have g0 := ns_ c8; clear hb hbox hg; have P5 := g0.out; have P6 := c8.out; have I2 := bc0_ b5; have I3 := bc1_ b5; have I4 := bc2_ b5; have I5 := bc3_ b5; have I6 : w7.cell? ⟨m4, 4, none⟩ = some (.float .f64 b_a1_4) := bd_ b5 4; have I7 := bf_ b5 0; have I8 := bf_ b5 1; have I9 := bf_ b5 2; have J0 := bf_ b5 3; have J1 := bf_ b5 4; have D3 := bc0_ b6; have D4 := bc1_ b6; have D5 := bc2_ b6; have D6 := bc3_ b6; have D7 := bf_ b6 0; have D8 := bf_ b6 1; have D9 := bf_ b6 2; have E0 := bf_ b6 3) | ((with_reducible refine gd_ 13 rfl ?_); (try (refine gate_guard (by rfl) ?_; dsimp only)); refine fop_event rfl (N := 13) rfl (op := .mul) (by simp) rfl .f64 b_a0_0 b_a0_0 a0_0 a0_0 rfl rfl hF_a0_0 hF_a0_0 ?_; intro b_ft342 nf_ hF_; replace hF_ := hF_.trans Nft342.out.symm; have hF_ft342 := hF_; clear hF_) | ((with_reducible refine gd_ 14 rfl ?_); (try (refine gate_guard (by rfl) ?_; dsimp only)); refine fop_event rfl (N := 14) rfl (op := .mul) (by simp) rfl .f64 b_a1_2 b_ft342 a1_2 ft342 rfl rfl hF_a1_2 hF_ft342 ?_; intro b_ft343 nf_ hF_; replace hF_ := hF_.trans Nft343.out.symm; have hF_ft343 := hF_; clear hF_) | ((with_reducible refine gd_ 17 rfl ?_); (try (refine gate_guard (by rfl) ?_; dsimp only)); refine fop_event rfl (N := 17) rfl (op := .quo) (by simp) rfl .f64 b_ft343 b_a1_4 ft343 a1_4 rfl rfl hF_ft343 hF_a1_4 ?_; intro b_ft344 nf_ hF_; replace hF_ := hF_.trans Nft344.out.symm; have hF_ft344 := hF_; clear hF_) | ((with_reducible refine gd_ 24 rfl ?_); (try (refine gate_guard (by rfl) ?_; dsimp only)); refine Kd.R_lit (Kd.fl .f64) _ 36 ?hg (N := 24) ?hd (xs := ([ft344] : List (Fl))) (inner := [.float .f64 b_ft344]) (ok := fun _ => True) (okp := fun _ => True) ?hr ?hp (fun _ hk => hk) trivial (Below.refl _ _) (Nat.le_refl _) (by simp) ?_; (case hd => rfl); (case hg => rfl); (case hr => exact hr_); (case hp => exact (Reps.one (show Kd.M (Kd.fl .f64) _ _ _ ft344 [.float .f64 b_ft344] from (Kd.M_fl hF_ft344)) (Reps.none _ _))); intro v346 Q9 o5 hb hg_ hnew_; clear hg_ hnew_; (first | rw [← n4.out] at o5 | (simp only [Int.reduceToNat] at o5; rw [← n4.out] at o5)); have j3 := mk_ (Kd.R_lower o5 (below_size (hw_ HB))); replace b5 := bk_ b5 hb; replace HB := hk_ HB hb; clear hb o5; obtain ⟨P7, P8, J2⟩ := Kd.R_slice j3.out; subst J2) | (go_at_call 89; (with_reducible refine (impl_finite.calls k _ _ q6 true _ ?d8 ?h2 A4.out).mono ?_); (case d8 => exact cw_ (rr_ j3)); (case h2 => exact (Kd.R_reads' j3.out).2.1); rintro e w' ⟨rfl, ⟨nd, rfl⟩⟩))
   go_ret2
   exact ⟨b_ft344, re_, hF_ft344, hw_ HB⟩
  ·replace c5 := Bool.eq_false_iff.mpr c5; subst c5
   have H1 : (some ((cn .f64 0), false)) = some (r1, r2) := by rw [if_neg (show ¬ (false = true) by decide)] at H; exact H
   clear H
   have H := H1
   clear H1
   simp only [Option.some.injEq, Prod.mk.injEq] at H
   obtain ⟨rfl, rfl⟩ := H
   go_enter Try.func48, Try.ntmps48
   go_wp2_with (first | ((with_reducible refine gd_ 2 rfl ?_); (try (refine gate_guard (by rfl) ?_; dsimp only)); refine box_event ?hg (N := 2) ?hd (cs := #[.float .f64 b_a0_0, .float .f64 b_a0_1, .float .f64 b_a0_2, .float .f64 b_a0_3]) (t := 60) ?hr ?_; (case hd => rfl); (case hg => rfl); (case hr => exact hr_); intro p4 hg R0 hbox hb; have b6 := mk_ (hbox); have m3 := gb_ hg HB; replace HB := bp_ HB hb; have p5 := m3; clear hb hbox hg) | ((with_reducible refine gd_ 3 rfl ?_); (try (refine gate_guard (by rfl) ?_; dsimp only)); refine box_event ?hg (N := 3) ?hd (cs := #[.float .f64 b_a1_0, .float .f64 b_a1_1, .float .f64 b_a1_2, .float .f64 b_a1_3, .float .f64 b_a1_4]) (t := 88) ?hr ?_; (case hd => rfl); (case hg => rfl); (case hr => exact hr_); intro m4 hg P9 hbox hb; have b5 := mk_ (hbox); have m5 := gb_ hg HB; replace HB := bp_ HB hb; have p6 := m5; have c8 := nb_ hg b6; replace b6 := bl_ b6 hb; have g0 := ns_ c8; clear hb hbox hg; have N7 := g0.out; have N8 := c8.out; have E1 := bc0_ b5; have E2 := bc1_ b5; have E3 := bc2_ b5; have E4 := bc3_ b5; have E5 : P9.cell? ⟨m4, 4, none⟩ = some (.float .f64 b_a1_4) := bd_ b5 4; have E6 := bf_ b5 0; have E7 := bf_ b5 1; have E8 := bf_ b5 2; have E9 := bf_ b5 3; have F0 := bf_ b5 4; have F1 := bc0_ b6; have F2 := bc1_ b6; have F3 := bc2_ b6; have F4 := bc3_ b6; have F5 := bf_ b6 0; have F6 := bf_ b6 1; have F7 := bf_ b6 2; have F8 := bf_ b6 3) | ((with_reducible refine gd_ 13 rfl ?_); (try (refine gate_guard (by rfl) ?_; dsimp only)); refine fop_event rfl (N := 13) rfl (op := .mul) (by simp) rfl .f64 b_a0_0 b_a0_0 a0_0 a0_0 rfl rfl hF_a0_0 hF_a0_0 ?_; intro b_ft342 nf_ hF_; replace hF_ := hF_.trans Nft342.out.symm; have hF_ft342 := hF_; clear hF_) | ((with_reducible refine gd_ 14 rfl ?_); (try (refine gate_guard (by rfl) ?_; dsimp only)); refine fop_event rfl (N := 14) rfl (op := .mul) (by simp) rfl .f64 b_a1_2 b_ft342 a1_2 ft342 rfl rfl hF_a1_2 hF_ft342 ?_; intro b_ft343 nf_ hF_; replace hF_ := hF_.trans Nft343.out.symm; have hF_ft343 := hF_; clear hF_) | ((with_reducible refine gd_ 17 rfl ?_); (try (refine gate_guard (by rfl) ?_; dsimp only)); refine fop_event rfl (N := 17) rfl (op := .quo) (by simp) rfl .f64 b_ft343 b_a1_4 ft343 a1_4 rfl rfl hF_ft343 hF_a1_4 ?_; intro b_ft344 nf_ hF_; replace hF_ := hF_.trans Nft344.out.symm; have hF_ft344 := hF_; clear hF_) | ((with_reducible refine gd_ 24 rfl ?_); (try (refine gate_guard (by rfl) ?_; dsimp only)); refine Kd.R_lit (Kd.fl .f64) _ 36 ?hg (N := 24) ?hd (xs := ([ft344] : List (Fl))) (inner := [.float .f64 b_ft344]) (ok := fun _ => True) (okp := fun _ => True) ?hr ?hp (fun _ hk => hk) trivial (Below.refl _ _) (Nat.le_refl _) (by simp) ?_; (case hd => rfl); (case hg => rfl); (case hr => exact hr_); (case hp => exact (Reps.one (show Kd.M (Kd.fl .f64) _ _ _ ft344 [.float .f64 b_ft344] from (Kd.M_fl hF_ft344)) (Reps.none _ _))); intro v346 R1 o6 hb hg_ hnew_; clear hg_ hnew_; (first | rw [← n4.out] at o6 | (simp only [Int.reduceToNat] at o6; rw [← n4.out] at o6)); have j3 := mk_ (Kd.R_lower o6 (below_size (hw_ HB))); replace b5 := bk_ b5 hb; replace HB := hk_ HB hb; clear hb o6; obtain ⟨Q0, Q1, J3⟩ := Kd.R_slice j3.out; subst J3) | (go_at_call 89; (with_reducible refine (impl_finite.calls k _ _ q6 false _ ?d8 ?h2 A4.out).mono ?_); (case d8 => exact cw_ (rr_ j3)); (case h2 => exact (Kd.R_reads' j3.out).2.1); rintro e w' ⟨rfl, ⟨nd, rfl⟩⟩))
   go_ret2
   exact ⟨0, re_, rfl, hw_ HB⟩
 ·rw [if_neg c3] at H
  have o1 : (fcmp .gtr .f64 a1_4 (cn .f64 0)) = false := by simpa using c3
  clear c3
  simp only [Option.some.injEq, Prod.mk.injEq] at H
  obtain ⟨rfl, rfl⟩ := H
  go_enter Try.func48, Try.ntmps48
  go_wp2_with (first | ((with_reducible refine gd_ 2 rfl ?_); (try (refine gate_guard (by rfl) ?_; dsimp only)); refine box_event ?hg (N := 2) ?hd (cs := #[.float .f64 b_a0_0, .float .f64 b_a0_1, .float .f64 b_a0_2, .float .f64 b_a0_3]) (t := 60) ?hr ?_; (case hd => rfl); (case hg => rfl); (case hr => exact hr_); intro p4 hg R2 hbox hb; have b6 := mk_ (hbox); have m3 := gb_ hg HB; replace HB := bp_ HB hb; have p5 := m3; clear hb hbox hg) | ((with_reducible refine gd_ 3 rfl ?_); (try (refine gate_guard (by rfl) ?_; dsimp only)); refine box_event ?hg (N := 3) ?hd (cs := #[.float .f64 b_a1_0, .float .f64 b_a1_1, .float .f64 b_a1_2, .float .f64 b_a1_3, .float .f64 b_a1_4]) (t := 88) ?hr ?_; (case hd => rfl); (case hg => rfl); (case hr => exact hr_); intro m4 hg Q2 hbox hb; have b5 := mk_ (hbox); have m5 := gb_ hg HB; replace HB := bp_ HB hb; have p6 := m5; have c8 := nb_ hg b6; replace b6 := bl_ b6 hb; have g0 := ns_ c8; clear hb hbox hg; have N9 := g0.out; have O0 := c8.out; have F9 := bc0_ b5; have G0 := bc1_ b5; have G1 := bc2_ b5; have G2 := bc3_ b5; have G3 : Q2.cell? ⟨m4, 4, none⟩ = some (.float .f64 b_a1_4) := bd_ b5 4; have G4 := bf_ b5 0; have G5 := bf_ b5 1; have G6 := bf_ b5 2; have G7 := bf_ b5 3; have G8 := bf_ b5 4; have G9 := bc0_ b6; have H0 := bc1_ b6; have H2 := bc2_ b6; have H3 := bc3_ b6; have H4 := bf_ b6 0; have H5 := bf_ b6 1; have H6 := bf_ b6 2; have H7 := bf_ b6 3) | ((with_reducible refine gd_ 13 rfl ?_); (try (refine gate_guard (by rfl) ?_; dsimp only)); refine fop_event rfl (N := 13) rfl (op := .mul) (by simp) rfl .f64 b_a0_0 b_a0_0 a0_0 a0_0 rfl rfl hF_a0_0 hF_a0_0 ?_; intro b_ft342 nf_ hF_; replace hF_ := hF_.trans Nft342.out.symm; have hF_ft342 := hF_; clear hF_) | ((with_reducible refine gd_ 14 rfl ?_); (try (refine gate_guard (by rfl) ?_; dsimp only)); refine fop_event rfl (N := 14) rfl (op := .mul) (by simp) rfl .f64 b_a1_2 b_ft342 a1_2 ft342 rfl rfl hF_a1_2 hF_ft342 ?_; intro b_ft343 nf_ hF_; replace hF_ := hF_.trans Nft343.out.symm; have hF_ft343 := hF_; clear hF_) | ((with_reducible refine gd_ 17 rfl ?_); (try (refine gate_guard (by rfl) ?_; dsimp only)); refine fop_event rfl (N := 17) rfl (op := .quo) (by simp) rfl .f64 b_ft343 b_a1_4 ft343 a1_4 rfl rfl hF_ft343 hF_a1_4 ?_; intro b_ft344 nf_ hF_; replace hF_ := hF_.trans Nft344.out.symm; have hF_ft344 := hF_; clear hF_))
  go_ret2
  exact ⟨0, re_, rfl, hw_ HB⟩

/-! ### impl_Near5: function 49 -/
def impl_Near5.l0 : Nat → Fl → List (Fl) → Int → Int → Option (Bool)
 | 0, _, _, _, _ => none
 | k + 1, x2, J4, O1, A8 => if A8 < O1 then (if 0 ≤ A8 then (if A8 < (J4.length : Int) then ((some (rdf .f64 J4 A8 : Fl)).bind fun fr358_0 => (if (fcmp .leq .f64 fr358_0 x2) = true then (if ((fcmp .geq .f64 fr358_0 (fneg .f64 x2)) = true) then (impl_Near5.l0 k x2 J4 O1 (wrap64 (A8 + 1))) else (some false)) else (some false))) else (none)) else (none)) else (some true)
def impl_Near5.f (k : Nat) (a0_0 : Fl) (a0_1 : Fl) (a0_2 : Fl) (a0_3 : Fl) (a1_0 : Fl) (a1_1 : Fl) (a1_2 : Fl) (a1_3 : Fl) (a2 : Fl) : Option (Bool) := (some (([(fop .sub .f64 a0_0 a1_0), (fop .sub .f64 a0_1 a1_1), (fop .sub .f64 a0_2 a1_2), (fop .sub .f64 a0_3 a1_3)] : List (Fl)) : List (Fl))).bind fun b8 => (impl_Near5.l0 k a2 b8 (b8.length : Int) 0)
theorem impl_Near5.mono_l : ∀ k, (∀ y0 y1 y2 y3, LeO (impl_Near5.l0 k y0 y1 y2 y3) (impl_Near5.l0 (k + 1) y0 y1 y2 y3))
 | 0 => fun _ _ _ _ r h => by simp [impl_Near5.l0] at h
 | k + 1 => by
  have l3 := impl_Near5.mono_l k
  ·intro y0 y1 y2 y3
   unfold impl_Near5.l0
   repeat' first
   | (with_reducible exact l3 _ _ _ _)
   | (with_reducible exact LeO.refl _)
   | (with_reducible exact LeO.none _)
   | (with_reducible refine LeO.ite ?_ ?_)
   | (with_reducible refine LeO.bind ?_ (fun _ => ?_))
   | exact l3 _ _ _ _
   | exact LeO.none _
   | refine LeO.ite ?_ ?_
   | refine LeO.bind ?_ (fun _ => ?_)
theorem impl_Near5.mono : ∀ a0 a1 a2 a3 a4 a5 a6 a7 a8 k, LeO (impl_Near5.f k a0 a1 a2 a3 a4 a5 a6 a7 a8) (impl_Near5.f (k + 1) a0 a1 a2 a3 a4 a5 a6 a7 a8) := by
 intro a0 a1 a2 a3 a4 a5 a6 a7 a8 k
 have l3 := impl_Near5.mono_l k
 unfold impl_Near5.f
 repeat' first
   | (with_reducible exact l3 _ _ _ _)
   | (with_reducible exact LeO.refl _)
   | (with_reducible exact LeO.none _)
   | (with_reducible refine LeO.ite ?_ ?_)
   | (with_reducible refine LeO.bind ?_ (fun _ => ?_))
   | exact l3 _ _ _ _
   | exact LeO.none _
   | refine LeO.ite ?_ ?_
   | refine LeO.bind ?_ (fun _ => ?_)
set_option maxHeartbeats 8000000 in
set_option maxRecDepth 100000 in
theorem impl_Near5.calls (k : Nat) (b_a0_0 : Nat) (a0_0 : Fl) (b_a0_1 : Nat) (a0_1 : Fl) (b_a0_2 : Nat) (a0_2 : Fl) (b_a0_3 : Nat) (a0_3 : Fl) (b_a1_0 : Nat) (a1_0 : Fl) (b_a1_1 : Nat) (a1_1 : Fl) (b_a1_2 : Nat) (a1_2 : Fl) (b_a1_3 : Nat) (a1_3 : Fl) (b_a2 : Nat) (a2 : Fl) (r : Bool) (w : World) (hF_a0_0 : cn .f64 b_a0_0 = a0_0) (hF_a0_1 : cn .f64 b_a0_1 = a0_1) (hF_a0_2 : cn .f64 b_a0_2 = a0_2) (hF_a0_3 : cn .f64 b_a0_3 = a0_3) (hF_a1_0 : cn .f64 b_a1_0 = a1_0) (hF_a1_1 : cn .f64 b_a1_1 = a1_1) (hF_a1_2 : cn .f64 b_a1_2 = a1_2) (hF_a1_3 : cn .f64 b_a1_3 = a1_3) (hF_a2 : cn .f64 b_a2 = a2) (h : impl_Near5.f k a0_0 a0_1 a0_2 a0_3 a1_0 a1_1 a1_2 a1_3 a2 = some r) :
  Calls Try.prog 49 #[.agg #[.float .f64 b_a0_0, .float .f64 b_a0_1, .float .f64 b_a0_2, .float .f64 b_a0_3], .agg #[.float .f64 b_a1_0, .float .f64 b_a1_1, .float .f64 b_a1_2, .float .f64 b_a1_3], .float .f64 b_a2] w fun e w' => e = .returned (.bool r) ∧ Below w.heap.size w w' := by
 have s1 := Try.underlying60
 have HB := mk_ (Below.refl w.heap.size w)
 have H : ((some (([(fop .sub .f64 a0_0 a1_0), (fop .sub .f64 a0_1 a1_1), (fop .sub .f64 a0_2 a1_2), (fop .sub .f64 a0_3 a1_3)] : List (Fl)) : List (Fl))).bind fun b8 => (impl_Near5.l0 k a2 b8 (b8.length : Int) 0)) = some r := h
 clear h
 obtain ⟨ft351, hft351⟩ : ∃ y_ : Fl, y_ = (fop .sub .f64 a0_0 a1_0) := ⟨_, rfl⟩
 replace H : ((some (([ft351, (fop .sub .f64 a0_1 a1_1), (fop .sub .f64 a0_2 a1_2), (fop .sub .f64 a0_3 a1_3)] : List (Fl)) : List (Fl))).bind fun b8 => (impl_Near5.l0 k a2 b8 (b8.length : Int) 0)) = some r := by first | (rw [hft351]; with_reducible exact H) | (have H2_ := (Option.bind_some _ _).symm.trans H; rw [hft351]; with_reducible exact H2_) | (have H2_ := (Option.bind_some _ _).symm.trans H; with_reducible exact H2_) | with_reducible exact H | (rw [hft351]; exact H) | exact H
 have Nft351 := mk_ hft351; clear hft351
 obtain ⟨ft352, hft352⟩ : ∃ y_ : Fl, y_ = (fop .sub .f64 a0_1 a1_1) := ⟨_, rfl⟩
 replace H : ((some (([ft351, ft352, (fop .sub .f64 a0_2 a1_2), (fop .sub .f64 a0_3 a1_3)] : List (Fl)) : List (Fl))).bind fun b8 => (impl_Near5.l0 k a2 b8 (b8.length : Int) 0)) = some r := by first | (rw [hft352]; with_reducible exact H) | (have H2_ := (Option.bind_some _ _).symm.trans H; rw [hft352]; with_reducible exact H2_) | (have H2_ := (Option.bind_some _ _).symm.trans H; with_reducible exact H2_) | with_reducible exact H | (rw [hft352]; exact H) | exact H
 have Nft352 := mk_ hft352; clear hft352
 obtain ⟨ft353, hft353⟩ : ∃ y_ : Fl, y_ = (fop .sub .f64 a0_2 a1_2) := ⟨_, rfl⟩
 replace H : ((some (([ft351, ft352, ft353, (fop .sub .f64 a0_3 a1_3)] : List (Fl)) : List (Fl))).bind fun b8 => (impl_Near5.l0 k a2 b8 (b8.length : Int) 0)) = some r := by first | (rw [hft353]; with_reducible exact H) | (have H2_ := (Option.bind_some _ _).symm.trans H; rw [hft353]; with_reducible exact H2_) | (have H2_ := (Option.bind_some _ _).symm.trans H; with_reducible exact H2_) | with_reducible exact H | (rw [hft353]; exact H) | exact H
 have Nft353 := mk_ hft353; clear hft353
 obtain ⟨ft354, hft354⟩ : ∃ y_ : Fl, y_ = (fop .sub .f64 a0_3 a1_3) := ⟨_, rfl⟩
 replace H : ((some (([ft351, ft352, ft353, ft354] : List (Fl)) : List (Fl))).bind fun b8 => (impl_Near5.l0 k a2 b8 (b8.length : Int) 0)) = some r := by first | (rw [hft354]; with_reducible exact H) | (have H2_ := (Option.bind_some _ _).symm.trans H; rw [hft354]; with_reducible exact H2_) | (have H2_ := (Option.bind_some _ _).symm.trans H; with_reducible exact H2_) | with_reducible exact H | (rw [hft354]; exact H) | exact H
 have Nft354 := mk_ hft354; clear hft354
 obtain ⟨b8, m6⟩ : ∃ y_ : List (Fl), y_ = (([ft351, ft352, ft353, ft354] : List (Fl))) := ⟨_, rfl⟩
 replace H : (impl_Near5.l0 k a2 b8 (b8.length : Int) 0) = some r := by first | (rw [m6]; with_reducible exact H) | (have H2_ := (Option.bind_some _ _).symm.trans H; rw [m6]; with_reducible exact H2_) | (have H2_ := (Option.bind_some _ _).symm.trans H; with_reducible exact H2_) | with_reducible exact H | (rw [m6]; exact H) | exact H
 have p7 := mk_ m6; clear m6
 have H' := mk_ H
 clear H
 go_enter Try.func49, Try.ntmps49
 go_wp2_with (first | ((with_reducible refine gd_ 3 rfl ?_); refine box_event ?hg (N := 3) ?hd (cs := #[.float .f64 b_a0_0, .float .f64 b_a0_1, .float .f64 b_a0_2, .float .f64 b_a0_3]) (t := 60) ?hr ?_; (case hd => rfl); (case hg => rfl); (case hr => exact hr_); intro O2 hg w4 hbox hb; have g1 := mk_ (hbox); have A9 := gb_ hg HB; replace HB := bp_ HB hb; have O3 := A9; clear hb hbox hg) | ((with_reducible refine gd_ 4 rfl ?_); refine box_event ?hg (N := 4) ?hd (cs := #[.float .f64 b_a1_0, .float .f64 b_a1_1, .float .f64 b_a1_2, .float .f64 b_a1_3]) (t := 60) ?hr ?_; (case hd => rfl); (case hg => rfl); (case hr => exact hr_); intro O4 hg w5 hbox hb; have g7 := mk_ (hbox); have B0 := gb_ hg HB; replace HB := bp_ HB hb; have O5 := B0; have j6 := nb_ hg g1; replace g1 := bl_ g1 hb; have n8 := ns_ j6; clear hb hbox hg; have Q3 := j6.out; have Q4 := n8.out; have J5 := bc0_ g1; have J6 := bc1_ g1; have J7 := bc2_ g1; have J8 := bc3_ g1; have J9 := bf_ g1 0; have L0 := bf_ g1 1; have L1 := bf_ g1 2; have L2 := bf_ g1 3; have L3 := bc0_ g7; have L4 := bc1_ g7; have L5 := bc2_ g7; have L6 := bc3_ g7; have L7 := bf_ g7 0; have L8 := bf_ g7 1; have L9 := bf_ g7 2; have M0 := bf_ g7 3) | ((with_reducible refine gd_ 13 rfl ?_); refine fop_event rfl (N := 13) rfl (op := .sub) (by simp) rfl .f64 b_a0_0 b_a1_0 a0_0 a1_0 rfl rfl hF_a0_0 hF_a1_0 ?_; intro b_ft351 nf_ hF_; replace hF_ := hF_.trans Nft351.out.symm; have hF_ft351 := hF_; clear hF_) | ((with_reducible refine gd_ 18 rfl ?_); refine fop_event rfl (N := 18) rfl (op := .sub) (by simp) rfl .f64 b_a0_1 b_a1_1 a0_1 a1_1 rfl rfl hF_a0_1 hF_a1_1 ?_; intro b_ft352 nf_ hF_; replace hF_ := hF_.trans Nft352.out.symm; have hF_ft352 := hF_; clear hF_) | ((with_reducible refine gd_ 23 rfl ?_); refine fop_event rfl (N := 23) rfl (op := .sub) (by simp) rfl .f64 b_a0_2 b_a1_2 a0_2 a1_2 rfl rfl hF_a0_2 hF_a1_2 ?_; intro b_ft353 nf_ hF_; replace hF_ := hF_.trans Nft353.out.symm; have hF_ft353 := hF_; clear hF_) | ((with_reducible refine gd_ 28 rfl ?_); refine fop_event rfl (N := 28) rfl (op := .sub) (by simp) rfl .f64 b_a0_3 b_a1_3 a0_3 a1_3 rfl rfl hF_a0_3 hF_a1_3 ?_; intro b_ft354 nf_ hF_; replace hF_ := hF_.trans Nft354.out.symm; have hF_ft354 := hF_; clear hF_) | ((with_reducible refine gd_ 29 rfl ?_); refine Kd.R_lit (Kd.fl .f64) _ 36 ?hg (N := 29) ?hd (xs := ([ft351, ft352, ft353, ft354] : List (Fl))) (inner := [.float .f64 b_ft351, .float .f64 b_ft352, .float .f64 b_ft353, .float .f64 b_ft354]) (ok := fun _ => True) (okp := fun _ => True) ?hr ?hp (fun _ hk => hk) trivial (Below.refl _ _) (Nat.le_refl _) (by simp) ?_; (case hd => rfl); (case hg => rfl); (case hr => exact hr_); (case hp => exact (Reps.one (show Kd.M (Kd.fl .f64) _ _ _ ft351 [.float .f64 b_ft351] from (Kd.M_fl hF_ft351)) (Reps.one (show Kd.M (Kd.fl .f64) _ _ _ ft352 [.float .f64 b_ft352] from (Kd.M_fl hF_ft352)) (Reps.one (show Kd.M (Kd.fl .f64) _ _ _ ft353 [.float .f64 b_ft353] from (Kd.M_fl hF_ft353)) (Reps.one (show Kd.M (Kd.fl .f64) _ _ _ ft354 [.float .f64 b_ft354] from (Kd.M_fl hF_ft354)) (Reps.none _ _)))))); intro v356 w9 o7 hb hg_ hnew_; clear hg_ hnew_; (first | rw [← p7.out] at o7 | (simp only [Int.reduceToNat] at o7; rw [← p7.out] at o7)); have p8 := mk_ (Kd.R_lower o7 (below_size (hw_ HB))); replace g1 := bk_ g1 hb; replace g7 := bk_ g7 hb; replace HB := hk_ HB hb; clear hb o7; obtain ⟨M1, M2, M3⟩ := Kd.R_slice p8.out; subst M3))
 go_loopg [31] k (fun kq v31 w' => ∃ (b9 : Int), v31 = .int .i64 b9 ∧ Aside0 (impl_Near5.l0 kq a2 b8 (b8.length : Int) b9 = some r) ∧ Aside0 (kq ≤ k) ∧ Aside0 (Kd.R (Kd.fl .f64) 36 w' w.heap.size (fun _ => True) (.slice M1 b8.length M2) b8) ∧ Aside0 (Below w.heap.size w w'))
 case atStart => exact ⟨(0), rf_, H', ⟨Nat.le_refl _⟩, kw_ p8, ⟨hw_ HB⟩⟩
 case round =>
  clear H'
  obtain ⟨b9, rfl, HA, A5, n5, HB⟩ := hrel
  cases gk with
  | zero => exact absurd HA.out (by simp [impl_Near5.l0])
  | succ k1 =>
   have H := HA.out; clear HA
   simp only [impl_Near5.l0] at H
   by_cases n7 : b9 < (b8.length : Int)
   ·rw [if_pos n7] at H; have n9 : decide (b9 < (b8.length : Int)) = true := decide_eq_true n7; clear n7; by_cases o9 : 0 ≤ b9
    ·rw [if_pos o9] at H; have s7 : decide (0 ≤ b9) = true := decide_eq_true o9; clear o9; by_cases H8 : b9 < (b8.length : Int)
     ·rw [if_pos H8] at H; have O6 : decide (b9 < (b8.length : Int)) = true := decide_eq_true H8; clear H8
      obtain ⟨fr358_0, g5⟩ : ∃ y_ : Fl, y_ = (rdf .f64 b8 b9) := ⟨_, rfl⟩
      replace H : (if (fcmp .leq .f64 fr358_0 a2) = true then (if ((fcmp .geq .f64 fr358_0 (fneg .f64 a2)) = true) then (impl_Near5.l0 k1 a2 b8 (b8.length : Int) (wrap64 (b9 + 1))) else (some false)) else (some false)) = some r := by first | (rw [g5]; with_reducible exact H) | (have H2_ := (Option.bind_some _ _).symm.trans H; rw [g5]; with_reducible exact H2_) | (have H2_ := (Option.bind_some _ _).symm.trans H; with_reducible exact H2_) | with_reducible exact H | (rw [g5]; exact H) | exact H
      have Nfr358_0 := mk_ g5; clear g5; by_cases o0 : (fcmp .leq .f64 fr358_0 a2) = true
      ·rw [if_pos o0] at H
       have B1 : (fcmp .leq .f64 fr358_0 a2) = true := o0
       clear o0
       obtain ⟨ft359, hft359⟩ : ∃ y_ : Fl, y_ = (fneg .f64 a2) := ⟨_, rfl⟩
       replace H : (if ((fcmp .geq .f64 fr358_0 ft359) = true) then (impl_Near5.l0 k1 a2 b8 (b8.length : Int) (wrap64 (b9 + 1))) else (some false)) = some r := by first | (rw [hft359]; with_reducible exact H) | (have H2_ := (Option.bind_some _ _).symm.trans H; rw [hft359]; with_reducible exact H2_) | (have H2_ := (Option.bind_some _ _).symm.trans H; with_reducible exact H2_) | with_reducible exact H | (rw [hft359]; exact H) | exact H
       have Nft359 := mk_ hft359; clear hft359; by_cases s0 : ((fcmp .geq .f64 fr358_0 ft359) = true)
       ·rw [if_pos s0] at H
        have B2 : (fcmp .geq .f64 fr358_0 ft359) = true := s0
        clear s0
        have H' := mk_ H
        clear H
        have j4 : 0 ≤ (b9 : Int) := od_
        have j5 : b9 < (b8.length : Int) := od_
        obtain ⟨p9, b_fr358_0, o8, n6, hF358_0⟩ := Kd.at_fl (rr_ n5) b9 j4 j5
        have hF_fr358_0 := hF358_0.trans Nfr358_0.out.symm
        clear hF358_0; cases o8; replace j4 := eq_true j4; replace j5 := eq_true j5
        go_wp2_with (first | ((with_reducible refine gd_ 41 rfl ?_); (try (refine gate_guard (by rfl) ?_; dsimp only)); refine fneg_event rfl (N := 41) rfl rfl .f64 b_a2 a2 rfl hF_a2 ?_; intro b_ft359 nf_ hF_; replace hF_ := hF_.trans Nft359.out.symm; have hF_ft359 := hF_; clear hF_))
        go_roundg k1
        case measure => have := A5.out; omega
        case rel => exact ⟨(wrap64 (b9 + 1)), rf_, H', ⟨by have := A5.out; omega⟩, kw_ n5, ⟨hw_ HB⟩⟩
       ·rw [if_neg s0] at H
        have B2 : (fcmp .geq .f64 fr358_0 ft359) = false := by simpa using s0
        clear s0; obtain rfl := Option.some.inj H
        have j4 : 0 ≤ (b9 : Int) := od_
        have j5 : b9 < (b8.length : Int) := od_
        obtain ⟨p9, b_fr358_0, o8, n6, hF358_0⟩ := Kd.at_fl (rr_ n5) b9 j4 j5
        have hF_fr358_0 := hF358_0.trans Nfr358_0.out.symm
        clear hF358_0; cases o8; replace j4 := eq_true j4; replace j5 := eq_true j5
        go_wp2_with (first | ((with_reducible refine gd_ 41 rfl ?_); (try (refine gate_guard (by rfl) ?_; dsimp only)); refine fneg_event rfl (N := 41) rfl rfl .f64 b_a2 a2 rfl hF_a2 ?_; intro b_ft359 nf_ hF_; replace hF_ := hF_.trans Nft359.out.symm; have hF_ft359 := hF_; clear hF_))
        go_ret
        exact ⟨re_, hw_ HB⟩
      ·rw [if_neg o0] at H
       have B1 : (fcmp .leq .f64 fr358_0 a2) = false := by simpa using o0
       clear o0; obtain rfl := Option.some.inj H
       have j4 : 0 ≤ (b9 : Int) := od_
       have j5 : b9 < (b8.length : Int) := od_
       obtain ⟨p9, b_fr358_0, o8, n6, hF358_0⟩ := Kd.at_fl (rr_ n5) b9 j4 j5
       have hF_fr358_0 := hF358_0.trans Nfr358_0.out.symm
       clear hF358_0; cases o8; replace j4 := eq_true j4; replace j5 := eq_true j5; go_wp2; go_ret
       exact ⟨re_, hw_ HB⟩
     ·rw [if_neg H8] at H
      exact absurd H (by simp)
    ·rw [if_neg o9] at H
     exact absurd H (by simp)
   ·rw [if_neg n7] at H; have n9 : decide (b9 < (b8.length : Int)) = false := decide_eq_false n7; clear n7; obtain rfl := Option.some.inj H; go_wp2; go_ret
    exact ⟨re_, hw_ HB⟩

end Go.Proofs.Ytkginilghcepbaa.QFnFlown
-- squeezed
