/- Lean functions that tell what the Go functions used by one law answer, and for each a proof that the Go code comes to just these answers; no condition. Printed by this session's own program over the kit's printer. -/
import Derived.Test.YtnphbpkpjinddaaWSq
import Derived.Test.YtnphbpkpjinddaaQFnCyclesx0
import Derived.Test.YtnphbpkpjinddaaQFnCyclesx2
import Derived.Test.YtnphbpkpjinddaaQFnCyclesx3
import Derived.Test.YtnphbpkpjinddaaQFnCyclesx5
namespace Go.Proofs.Ytnphbpkpjinddaa.QFnCycles
open Go.RowKit Go.Proofs.YtnphbpkpjinddaaW.PrintWords Go.Proofs.YtnphbpkpjinddaaW.PrintLast Go.Proofs.YtnphbpkpjinddaaW.PrintMore
attribute [local go_sem] max2_int min2_int max_two min_two max_three min_three max_four min_four   -- for this text's walks alone
attribute [local go_sem high] go_eql go_neq go_lss go_leq go_gtr go_geq go_store   -- for this text's walks alone
set_option linter.unusedVariables false
set_option linter.unusedSimpArgs false

/-! ### impl_Used: function 50 -/
mutual
def impl_Used.j0 : Nat → List (S83) → List Int → Bool → Option (Int × Int × Bool)
 | 0, _, _, _ => none
 | k + 1, x0, x1, G1 => if G1 = true then (some (0, 0, false)) else (impl_Used.l0 k x0 x1 (x1.length : Int) 0 0 1)
def impl_Used.l0 : Nat → List (S83) → List Int → Int → Int → Int → Int → Option (Int × Int × Bool)
 | 0, _, _, _, _, _, _ => none
 | k + 1, x0, m9, n0, j9, d9, g0 => if j9 < n0 then (if 0 ≤ j9 then (if j9 < (m9.length : Int) then (impl_Used.l1 k x0 (rd m9 j9) (-1) m9 n0 j9 d9 g0) else (none)) else (none)) else (some (d9, g0, true))
def impl_Used.j3 : Nat → List (S83) → Int → List Int → Int → Int → Int → Int → Option (Int × Int × Bool)
 | 0, _, _, _, _, _, _, _ => none
 | k + 1, x0, x9, m9, n0, j9, d9, g0 => if x9 < 0 then (impl_Used.l0 k x0 m9 n0 (wrap64 (j9 + 1)) d9 g0) else (if 0 ≤ x9 then (if x9 < (x0.length : Int) then ((impl_addPart.f k d9 g0 ((rd_T83 x0 x9).f1)).bind fun l2 => (if l2.2.2 = true then (impl_Used.l0 k x0 m9 n0 (wrap64 (j9 + 1)) l2.1 l2.2.1) else (some (0, 0, false)))) else (none)) else (none))
def impl_Used.l1 : Nat → List (S83) → Int → Int → List Int → Int → Int → Int → Int → Option (Int × Int × Bool)
 | 0, _, _, _, _, _, _, _, _ => none
 | k + 1, x0, x8, x9, m9, n0, j9, d9, g0 => if (wrap64 (x9 + 1)) < (x0.length : Int) then (if 0 ≤ (wrap64 (x9 + 1)) then (if ((rd_T83 x0 (wrap64 (x9 + 1))).f0) ≤ x8 then (impl_Used.l1 k x0 x8 (wrap64 (x9 + 1)) m9 n0 j9 d9 g0) else (impl_Used.j3 k x0 x9 m9 n0 j9 d9 g0)) else (none)) else (impl_Used.j3 k x0 x9 m9 n0 j9 d9 g0)
end
def impl_Used.f (k : Nat) (l0 : List (S83)) (l1 : List Int) : Option (Int × Int × Bool) := (impl_fatigueOk.f k l0).bind fun j8 => (if j8 = true then (if (l1.length : Int) > 40 then (impl_Used.j0 k l0 l1 true) else ((impl_allIn.f k l1 0 2000000).bind fun g9 => (impl_Used.j0 k l0 l1 (!g9)))) else (impl_Used.j0 k l0 l1 true))
theorem impl_Used.mono_l : ∀ k, (∀ y0 y1 y2, LeO (impl_Used.j0 k y0 y1 y2) (impl_Used.j0 (k + 1) y0 y1 y2)) ∧ (∀ y0 y1 y2 y3 y4 y5, LeO (impl_Used.l0 k y0 y1 y2 y3 y4 y5) (impl_Used.l0 (k + 1) y0 y1 y2 y3 y4 y5)) ∧ (∀ y0 y1 y2 y3 y4 y5 y6, LeO (impl_Used.j3 k y0 y1 y2 y3 y4 y5 y6) (impl_Used.j3 (k + 1) y0 y1 y2 y3 y4 y5 y6)) ∧ (∀ y0 y1 y2 y3 y4 y5 y6 y7, LeO (impl_Used.l1 k y0 y1 y2 y3 y4 y5 y6 y7) (impl_Used.l1 (k + 1) y0 y1 y2 y3 y4 y5 y6 y7))
 | 0 => ⟨fun _ _ _ r h => by simp [impl_Used.j0] at h, fun _ _ _ _ _ _ r h => by simp [impl_Used.l0] at h, fun _ _ _ _ _ _ _ r h => by simp [impl_Used.j3] at h, fun _ _ _ _ _ _ _ _ r h => by simp [impl_Used.l1] at h⟩
 | k + 1 => by
  obtain ⟨l3, l4, l5, l6⟩ := impl_Used.mono_l k
  refine ⟨?_, ?_, ?_, ?_⟩
  ·intro y0 y1 y2
   unfold impl_Used.j0
   repeat' first
   | (with_reducible exact l3 _ _ _)
   | (with_reducible exact l4 _ _ _ _ _ _)
   | (with_reducible exact l5 _ _ _ _ _ _ _)
   | (with_reducible exact l6 _ _ _ _ _ _ _ _)
   | (with_reducible exact impl_addPart.mono _ _ _ _)
   | (with_reducible exact impl_allIn.mono _ _ _ _)
   | (with_reducible exact impl_fatigueOk.mono _ _)
   | (with_reducible exact LeO.refl _)
   | (with_reducible exact LeO.none _)
   | (with_reducible refine LeO.ite ?_ ?_)
   | (with_reducible refine LeO.bind ?_ (fun _ => ?_))
   | exact l3 _ _ _
   | exact l4 _ _ _ _ _ _
   | exact l5 _ _ _ _ _ _ _
   | exact l6 _ _ _ _ _ _ _ _
   | exact impl_addPart.mono _ _ _ _
   | exact impl_allIn.mono _ _ _ _
   | exact impl_fatigueOk.mono _ _
   | exact LeO.none _
   | refine LeO.ite ?_ ?_
   | refine LeO.bind ?_ (fun _ => ?_)
  ·intro y0 y1 y2 y3 y4 y5
   unfold impl_Used.l0
   repeat' first
   | (with_reducible exact l3 _ _ _)
   | (with_reducible exact l4 _ _ _ _ _ _)
   | (with_reducible exact l5 _ _ _ _ _ _ _)
   | (with_reducible exact l6 _ _ _ _ _ _ _ _)
   | (with_reducible exact impl_addPart.mono _ _ _ _)
   | (with_reducible exact impl_allIn.mono _ _ _ _)
   | (with_reducible exact impl_fatigueOk.mono _ _)
   | (with_reducible exact LeO.refl _)
   | (with_reducible exact LeO.none _)
   | (with_reducible refine LeO.ite ?_ ?_)
   | (with_reducible refine LeO.bind ?_ (fun _ => ?_))
   | exact l3 _ _ _
   | exact l4 _ _ _ _ _ _
   | exact l5 _ _ _ _ _ _ _
   | exact l6 _ _ _ _ _ _ _ _
   | exact impl_addPart.mono _ _ _ _
   | exact impl_allIn.mono _ _ _ _
   | exact impl_fatigueOk.mono _ _
   | exact LeO.none _
   | refine LeO.ite ?_ ?_
   | refine LeO.bind ?_ (fun _ => ?_)
  ·intro y0 y1 y2 y3 y4 y5 y6
   unfold impl_Used.j3
   repeat' first
   | (with_reducible exact l3 _ _ _)
   | (with_reducible exact l4 _ _ _ _ _ _)
   | (with_reducible exact l5 _ _ _ _ _ _ _)
   | (with_reducible exact l6 _ _ _ _ _ _ _ _)
   | (with_reducible exact impl_addPart.mono _ _ _ _)
   | (with_reducible exact impl_allIn.mono _ _ _ _)
   | (with_reducible exact impl_fatigueOk.mono _ _)
   | (with_reducible exact LeO.refl _)
   | (with_reducible exact LeO.none _)
   | (with_reducible refine LeO.ite ?_ ?_)
   | (with_reducible refine LeO.bind ?_ (fun _ => ?_))
   | exact l3 _ _ _
   | exact l4 _ _ _ _ _ _
   | exact l5 _ _ _ _ _ _ _
   | exact l6 _ _ _ _ _ _ _ _
   | exact impl_addPart.mono _ _ _ _
   | exact impl_allIn.mono _ _ _ _
   | exact impl_fatigueOk.mono _ _
   | exact LeO.none _
   | refine LeO.ite ?_ ?_
   | refine LeO.bind ?_ (fun _ => ?_)
  ·intro y0 y1 y2 y3 y4 y5 y6 y7
   unfold impl_Used.l1
   repeat' first
   | (with_reducible exact l3 _ _ _)
   | (with_reducible exact l4 _ _ _ _ _ _)
   | (with_reducible exact l5 _ _ _ _ _ _ _)
   | (with_reducible exact l6 _ _ _ _ _ _ _ _)
   | (with_reducible exact impl_addPart.mono _ _ _ _)
   | (with_reducible exact impl_allIn.mono _ _ _ _)
   | (with_reducible exact impl_fatigueOk.mono _ _)
   | (with_reducible exact LeO.refl _)
   | (with_reducible exact LeO.none _)
   | (with_reducible refine LeO.ite ?_ ?_)
   | (with_reducible refine LeO.bind ?_ (fun _ => ?_))
   | exact l3 _ _ _
   | exact l4 _ _ _ _ _ _
   | exact l5 _ _ _ _ _ _ _
   | exact l6 _ _ _ _ _ _ _ _
   | exact impl_addPart.mono _ _ _ _
   | exact impl_allIn.mono _ _ _ _
   | exact impl_fatigueOk.mono _ _
   | exact LeO.none _
   | refine LeO.ite ?_ ?_
   | refine LeO.bind ?_ (fun _ => ?_)
theorem impl_Used.mono : ∀ a0 a1 k, LeO (impl_Used.f k a0 a1) (impl_Used.f (k + 1) a0 a1) := by
 intro a0 a1 k
 obtain ⟨l3, l4, l5, l6⟩ := impl_Used.mono_l k
 unfold impl_Used.f
 repeat' first
   | (with_reducible exact l3 _ _ _)
   | (with_reducible exact l4 _ _ _ _ _ _)
   | (with_reducible exact l5 _ _ _ _ _ _ _)
   | (with_reducible exact l6 _ _ _ _ _ _ _ _)
   | (with_reducible exact impl_addPart.mono _ _ _ _)
   | (with_reducible exact impl_allIn.mono _ _ _ _)
   | (with_reducible exact impl_fatigueOk.mono _ _)
   | (with_reducible exact LeO.refl _)
   | (with_reducible exact LeO.none _)
   | (with_reducible refine LeO.ite ?_ ?_)
   | (with_reducible refine LeO.bind ?_ (fun _ => ?_))
   | exact l3 _ _ _
   | exact l4 _ _ _ _ _ _
   | exact l5 _ _ _ _ _ _ _
   | exact l6 _ _ _ _ _ _ _ _
   | exact impl_addPart.mono _ _ _ _
   | exact impl_allIn.mono _ _ _ _
   | exact impl_fatigueOk.mono _ _
   | exact LeO.none _
   | refine LeO.ite ?_ ?_
   | refine LeO.bind ?_ (fun _ => ?_)
def impl_Used.T11 : Bool × List (List Nat × List Nat) := (true, [([], []), ([], []), ([], []), ([1, 2], [1, 2]), ([3], [3]), ([4], [4]), ([0, 5], [0, 5]), ([6], [6]), ([7], [7]), ([7], [7]), ([], []), ([10, 8, 6, 0, 1, 2, 3, 4, 5, 6, 7, 8, 10], [8, 10]), ([9, 11, 0, 1, 2, 3, 4, 5, 6, 7, 8, 9, 10, 11], [9])])
def impl_Used.B11 : List Nat := [0, 0, 0, 6, 14, 30, 63, 127, 255, 255, 0, 1535, 4095]
theorem impl_Used.tab11 : rtab .any (opsOf Try.f50 11) = impl_Used.T11 := by kernel_rfl
theorem impl_Used.bits11 : waitsOk impl_Used.T11.2 impl_Used.B11 = true := by kernel_rfl
set_option maxHeartbeats 8000000 in
set_option maxRecDepth 100000 in
theorem impl_Used.calls (k : Nat) (A0 : Option Addr) (c0 : Nat) (l0 : List (S83)) (A1 : Option Addr) (c1 : Nat) (l1 : List Int) (r1 : Int) (r2 : Int) (r3 : Bool) (w : World) (hr0 : Kd.C k83 w A0 l0.length l0) (hc0 : l0.length ≤ c0) (hr1 : Kd.C (Kd.int .i64) w A1 l1.length l1) (hc1 : l1.length ≤ c1) (h : impl_Used.f k l0 l1 = some (r1, r2, r3)) :
  Calls Try.prog 50 #[.slice A0 l0.length c0, .slice A1 l1.length c1] w fun e w' => e = .returned (.tuple #[.agg #[.int .i64 r1, .int .i64 r2], .bool r3]) ∧ Below w.heap.size w w' := by
 have G2 := Try.underlying48
 have n7 := mk_ hr0; have C5 := mk_ hc0; clear hr0 hc0; have D2 := mk_ hr1; have G3 := mk_ hc1; clear hr1 hc1; have HB := mk_ (Below.refl w.heap.size w)
 have H : ((impl_fatigueOk.f k l0).bind fun j8 => (if j8 = true then (if (l1.length : Int) > 40 then (impl_Used.j0 k l0 l1 true) else ((impl_allIn.f k l1 0 2000000).bind fun g9 => (impl_Used.j0 k l0 l1 (!g9)))) else (impl_Used.j0 k l0 l1 true))) = some (r1, r2, r3) := h
 clear h; have C6 := mk_ H; clear H
 go_enter Try.func50, Try.ntmps50
 go_upto_region 1 with (first | ((with_reducible refine gd_ 4 rfl ?_); (try (refine gate_guard (by rfl) ?_; dsimp only)); refine box_event ?hg (N := 4) ?hd (cs := #[.int .i64 0, .int .i64 0]) (t := 48) ?hr ?_; (case hd => rfl); (case hg => rfl); (case hr => exact hr_); intro g2 hg w4 hbox hb; have a9 := mk_ (hbox); have p1 := gb_ hg HB; replace HB := bp_ HB hb; have l7 := p1; clear hb hbox hg))
 (try simp only [Act.put, List.setIfInBounds_toArray, List.set_cons_zero, List.set_cons_succ])
 go_cut [24] (fun v24 wc => ∃ (kq : Nat) (j7 : Bool), v24 = .bool j7 ∧ Aside0 (impl_Used.j0 kq l0 l1 j7 = some (r1, r2, r3)) ∧ Aside0 (kq ≤ k) ∧ Aside0 (wc.heap[g2]? = some (.cells #[.int .i64 0, .int .i64 0] 48 (0, 0))) ∧ Aside0 (Below w.heap.size w wc))
 case first =>
  have H := C6.out; clear C6; replace H := Option.bind_eq_some_iff.mp H; obtain ⟨j8, D3, H⟩ := H
  replace H : (if j8 = true then (if (l1.length : Int) > 40 then (impl_Used.j0 k l0 l1 true) else ((impl_allIn.f k l1 0 2000000).bind fun g9 => (impl_Used.j0 k l0 l1 (!g9)))) else (impl_Used.j0 k l0 l1 true)) = some (r1, r2, r3) := H
  have A5 := mk_ D3; clear D3; by_cases c6 : j8 = true
  ·subst c6
   have H1 : (if (l1.length : Int) > 40 then (impl_Used.j0 k l0 l1 true) else ((impl_allIn.f k l1 0 2000000).bind fun g9 => (impl_Used.j0 k l0 l1 (!g9)))) = some (r1, r2, r3) := by rw [if_pos rfl] at H; exact H
   clear H
   have H := H1
   clear H1; by_cases c7 : (l1.length : Int) > 40
   ·rw [if_pos c7] at H; have l8 : decide (40 < (l1.length : Int)) = true := decide_eq_true c7; have C7 : decide (40 < l1.length) = true := decide_eq_true (by omega); clear c7
    (first | rw [l8] | (simp only [i64_w, i32_w]; rw [l8]) | skip)
    have H' := mk_ H
    clear H
    go_wp2_with (first | ((with_reducible refine gc_ 104 rfl ?_); refine gl_ (some 13) rfl Try.func104 #[.slice A0 l0.length c0] ?_; (with_reducible refine (impl_fatigueOk.calls k _ _ l0 true _ ?h2 ?h3 A5.out).mono ?_); (case h2 => exact cw_ (Kd.C_below n7.out HB.out)); (case h3 => exact C5.out); rintro e w8 ⟨rfl, hb⟩; refine ⟨_, rfl, ?_⟩; replace a9 := bl_ a9 hb; replace HB := bp_ HB hb; (try clear hb); (try clear q3); (try clear hk); (try clear hi)))
    go_meet
    case rel => exact ⟨_, (true), rf_, H', ⟨by first | omega | exact Nat.le_refl _⟩, bw_ a9, ⟨hw_ HB⟩⟩
   ·rw [if_neg c7] at H; have l8 : decide (40 < (l1.length : Int)) = false := decide_eq_false c7; have C7 : decide (40 < l1.length) = false := decide_eq_false (by omega); clear c7
    (first | rw [l8] | (simp only [i64_w, i32_w]; rw [l8]) | skip)
    replace H := Option.bind_eq_some_iff.mp H; obtain ⟨g9, D4, H⟩ := H
    replace H : (impl_Used.j0 k l0 l1 (!g9)) = some (r1, r2, r3) := H
    have A9 := mk_ D4; clear D4
    have H' := mk_ H
    clear H
    go_wp2_with (first | ((with_reducible refine gc_ 104 rfl ?_); refine gl_ (some 13) rfl Try.func104 #[.slice A0 l0.length c0] ?_; (with_reducible refine (impl_fatigueOk.calls k _ _ l0 true _ ?h2 ?h3 A5.out).mono ?_); (case h2 => exact cw_ (Kd.C_below n7.out HB.out)); (case h3 => exact C5.out); rintro e H6 ⟨rfl, hb⟩; refine ⟨_, rfl, ?_⟩; replace a9 := bl_ a9 hb; replace HB := bp_ HB hb; (try clear hb); (try clear q3); (try clear hk); (try clear hi)) | (go_at_call 85; (with_reducible refine (impl_allIn.calls k _ _ l1 0 2000000 g9 _ ?h2 ?h3 A9.out).mono ?_); (case h2 => exact cw_ (Kd.C_below D2.out HB.out)); (case h3 => exact G3.out); rintro e w' ⟨rfl, ⟨nd, rfl⟩⟩))
    go_meet
    case rel => exact ⟨_, (!g9), rf_, H', ⟨by first | omega | exact Nat.le_refl _⟩, bw_ a9, ⟨hw_ HB⟩⟩
  ·replace c6 := Bool.eq_false_iff.mpr c6; subst c6
   have H1 : (impl_Used.j0 k l0 l1 true) = some (r1, r2, r3) := by rw [if_neg (show ¬ (false = true) by decide)] at H; exact H
   clear H
   have H := H1
   clear H1
   have H' := mk_ H
   clear H
   go_wp2_with (first | ((with_reducible refine gc_ 104 rfl ?_); refine gl_ (some 13) rfl Try.func104 #[.slice A0 l0.length c0] ?_; (with_reducible refine (impl_fatigueOk.calls k _ _ l0 false _ ?h2 ?h3 A5.out).mono ?_); (case h2 => exact cw_ (Kd.C_below n7.out HB.out)); (case h3 => exact C5.out); rintro e H7 ⟨rfl, hb⟩; refine ⟨_, rfl, ?_⟩; replace a9 := bl_ a9 hb; replace HB := bp_ HB hb; (try clear hb); (try clear q3); (try clear hk); (try clear hi)))
   go_meet
   case rel => exact ⟨_, (true), rf_, H', ⟨by first | omega | exact Nat.le_refl _⟩, bw_ a9, ⟨hw_ HB⟩⟩
 case rest =>
  clear C6; (try clear c1)
  obtain ⟨kq, j7, rfl, HA, n2, a9, HB⟩ := hcut
  cases kq with
  | zero => exact absurd HA.out (by simp [impl_Used.j0])
  | succ kj2 =>
   have H := HA.out; clear HA
   simp only [impl_Used.j0] at H
   by_cases n8 : j7 = true
   ·subst n8
    have H1 : (some (0, 0, false)) = some (r1, r2, r3) := by rw [if_pos rfl] at H; exact H
    clear H
    have H := H1
    clear H1
    simp only [Option.some.injEq, Prod.mk.injEq] at H
    obtain ⟨rfl, rfl, rfl⟩ := H; have q4 := bc0_ a9
    have q5 := bc1_ a9; have q6 := bf_ a9 0; have q7 := bf_ a9 1; go_wp2
    refine bodyPost_ret (results_ct rfl _ _ g2 48 #[.int .i64 0, .int .i64 0] (0, 0) _ rfl (by (with_reducible repeat (first | refine blk_drewN ?_ _ | refine blk_drew ?_ | refine blk_alloc ?_ _)); refine blk_put (cs := #[.int .i64 0, .int .i64 0]) ?_ 1 _ rfl; (with_reducible repeat (first | refine blk_drewN ?_ _ | refine blk_drew ?_ | refine blk_alloc ?_ _)); refine blk_put (cs := #[.int .i64 0, .int .i64 0]) ?_ 0 _ rfl; (with_reducible repeat (first | refine blk_drewN ?_ _ | refine blk_drew ?_ | refine blk_alloc ?_ _)); exact a9.out) Try.underlying48 rfl (by kernel_rfl)) rfl ?_
    exact ⟨re_, by repeat (first | (with_reducible first | exact HB.out | apply below_alloc | apply pw_below_drewN | apply below_drew1 | refine below_set ?_ l7.out) | exact HB.out)⟩
   ·replace n8 := Bool.eq_false_iff.mpr n8; subst n8
    have H1 : (impl_Used.l0 kj2 l0 l1 (l1.length : Int) 0 0 1) = some (r1, r2, r3) := by rw [if_neg (show ¬ (false = true) by decide)] at H; exact H
    clear H
    have H := H1
    clear H1
    have H' := mk_ H
    clear H
    go_wp2_with (first | ((with_reducible refine gd_ 6 rfl ?_); (try (refine gate_guard (by rfl) ?_; dsimp only)); refine box_event ?hg (N := 6) ?hd (cs := #[.int .i64 0, .int .i64 0]) (t := 48) ?hr ?_; (case hd => rfl); (case hg => rfl); (case hr => exact hr_); intro g1 hg H8 hbox hb; have b2 := mk_ (hbox); have p2 := gb_ hg HB; replace HB := bp_ HB hb; have n3 := p2; have d4 := nb_ hg a9; replace a9 := bl_ a9 hb; have g7 := ns_ d4; clear hb hbox hg; have D5 := g7.out; have D6 := d4.out; have q8 := bc0_ b2; have q9 := bc1_ b2; have s0 := bf_ b2 0; have s1 := bf_ b2 1))
    go_loopg [29] kj2 (fun kq v29 w' => ∃ (d0 : Int) (d1 : Int) (c9 : Int) (b6 : Int) (b7 : Int), v29 = .int .i64 d0 ∧ Aside0 (impl_Used.l0 kq l0 l1 (l1.length : Int) d0 b6 b7 = some (r1, r2, r3)) ∧ Aside0 (kq ≤ kj2) ∧ Aside0 (w'.heap[g2]? = some (.cells #[.int .i64 d1, .int .i64 c9] 48 (0, 0))) ∧ Aside0 (w'.heap[g1]? = some (.cells #[.int .i64 b6, .int .i64 b7] 48 (0, 0))) ∧ Aside0 (Below w.heap.size w w'))
    case atStart => exact ⟨(0), (0), (0), (0), (1), rf_, H', ⟨Nat.le_refl _⟩, ⟨by (with_reducible repeat (first | refine blk_drewN ?_ _ | refine blk_drew ?_ | refine blk_alloc ?_ _)); refine blk_far ?_ d4.out _; (with_reducible repeat (first | refine blk_drewN ?_ _ | refine blk_drew ?_ | refine blk_alloc ?_ _)); refine blk_far ?_ d4.out _; (with_reducible repeat (first | refine blk_drewN ?_ _ | refine blk_drew ?_ | refine blk_alloc ?_ _)); exact a9.out⟩, ⟨by (with_reducible repeat (first | refine blk_drewN ?_ _ | refine blk_drew ?_ | refine blk_alloc ?_ _)); refine blk_put (cs := #[.int .i64 0, .int .i64 0]) ?_ 1 _ rfl; (with_reducible repeat (first | refine blk_drewN ?_ _ | refine blk_drew ?_ | refine blk_alloc ?_ _)); refine blk_put (cs := #[.int .i64 0, .int .i64 0]) ?_ 0 _ rfl; (with_reducible repeat (first | refine blk_drewN ?_ _ | refine blk_drew ?_ | refine blk_alloc ?_ _)); exact b2.out⟩, ⟨by repeat (first | (with_reducible first | exact HB.out | apply below_alloc | apply pw_below_drewN | apply below_drew1 | refine below_set ?_ n3.out) | exact HB.out)⟩⟩
    case round =>
     clear H'; (try clear c1); (try clear n8)
     obtain ⟨d0, d1, c9, b6, b7, rfl, HA, n4, a9, b2, HB⟩ := hrel
     cases gk with
     | zero => exact absurd HA.out (by simp [impl_Used.l0])
     | succ k2 =>
      have H := HA.out; clear HA
      simp only [impl_Used.l0] at H
      by_cases n5 : d0 < (l1.length : Int)
      ·rw [if_pos n5] at H; have l9 : decide (d0 < (l1.length : Int)) = true := decide_eq_true n5; clear n5; by_cases o6 : 0 ≤ d0
       ·rw [if_pos o6] at H; have n6 : decide (0 ≤ d0) = true := decide_eq_true o6; clear o6; by_cases o7 : d0 < (l1.length : Int)
        ·rw [if_pos o7] at H; have D7 : decide (d0 < (l1.length : Int)) = true := decide_eq_true o7; clear o7; have n9 := mk_ H; clear H
         have o0 : 0 ≤ (d0 : Int) := od_
         have o1 : d0 < (l1.length : Int) := od_
         obtain ⟨D8, C8, h7⟩ := Kd.at_int D2.out d0 o0 o1; cases C8
         replace h7 := (HB.out.cell (World.block_lt_of_cell? w _ h7)).trans h7
         replace o0 := eq_true o0; replace o1 := eq_true o1
         go_upto_block 2 with (fail)
         go_cut [9] (fun v9 wc => ∃ (kq : Nat) (b4 : Int), v9 = .int .i64 b4 ∧ Aside0 (impl_Used.j3 kq l0 b4 l1 (l1.length : Int) d0 b6 b7 = some (r1, r2, r3)) ∧ Aside0 (kq ≤ k2) ∧ Aside0 (wc.heap[g2]? = some (.cells #[.int .i64 d1, .int .i64 c9] 48 (0, 0))) ∧ Aside0 (wc.heap[g1]? = some (.cells #[.int .i64 b6, .int .i64 b7] 48 (0, 0))) ∧ Aside0 (Below w.heap.size w wc))
         case first =>
          have H := n9.out; clear n9
          have H' := mk_ H
          clear H; go_wp2
          go_loopg [9] k2 (fun kq v9 w' => ∃ (h4 : Int), v9 = .int .i64 h4 ∧ Aside0 (impl_Used.l1 kq l0 (rd l1 d0) h4 l1 (l1.length : Int) d0 b6 b7 = some (r1, r2, r3)) ∧ Aside0 (kq ≤ k2) ∧ Aside0 (w'.heap[g2]? = some (.cells #[.int .i64 d1, .int .i64 c9] 48 (0, 0))) ∧ Aside0 (w'.heap[g1]? = some (.cells #[.int .i64 b6, .int .i64 b7] 48 (0, 0))) ∧ Aside0 (Below w.heap.size w w'))
          case atStart => exact ⟨((-1)), rf_, H', ⟨Nat.le_refl _⟩, bw_ a9, bw_ b2, ⟨hw_ HB⟩⟩
          case round =>
           clear H'; (try clear c1); (try clear n8); (try clear n5); (try clear l9); (try clear o6); (try clear n6); (try clear o7)
           obtain ⟨h4, rfl, HA, s2, a9, b2, HB⟩ := hrel
           cases gk with
           | zero => exact absurd HA.out (by simp [impl_Used.l1])
           | succ k3 =>
            have H := HA.out; clear HA
            simp only [impl_Used.l1] at H
            by_cases o8 : (wrap64 (h4 + 1)) < (l0.length : Int)
            ·rw [if_pos o8] at H; have h6 : decide ((wrap64 (h4 + 1)) < (l0.length : Int)) = true := decide_eq_true o8; clear o8
             (first | rw [h6] | (simp only [i64_w, i32_w]; rw [h6]) | skip)
             obtain ⟨g8, h9⟩ : ∃ j_ : Int, (wrap64 (h4 + 1)) = j_ := ⟨_, rfl⟩
             replace H : (if 0 ≤ (g8) then (if ((rd_T83 l0 (g8)).f0) ≤ (rd l1 d0) then (impl_Used.l1 k3 l0 (rd l1 d0) g8 l1 (l1.length : Int) d0 b6 b7) else (impl_Used.j3 k3 l0 h4 l1 (l1.length : Int) d0 b6 b7)) else (none)) = some (r1, r2, r3) := by first | (rw [h9] at H; exact H) | (simp only [h9] at H ⊢; exact H)
             (try rw [h9] at h6)
             have hji22w : (IntKind.i64.wrap (h4 + 1)) = g8 := (i64_w _).trans h9
             by_cases s3 : 0 ≤ (g8)
             ·rw [if_pos s3] at H; have D9 : decide (0 ≤ (g8)) = true := decide_eq_true s3; clear s3; by_cases o9 : ((rd_T83 l0 (g8)).f0) ≤ (rd l1 d0)
              ·rw [if_pos o9] at H; have p3 : decide (((rd_T83 l0 (g8)).f0) ≤ (rd l1 d0)) = true := decide_eq_true o9; clear o9
               have H' := mk_ H
               clear H
               have j2 : 0 ≤ ((g8) : Int) := od_
               have j4 : (g8) < (l0.length : Int) := od_
               obtain ⟨p4, o2, g4, g5⟩ := at_T83 n7.out (g8) j2 j4; cases o2
               replace g4 := (HB.out.cell (World.block_lt_of_cell? w _ g4)).trans g4
               replace g5 := (HB.out.cell (World.block_lt_of_cell? w _ g5)).trans g5
               replace j2 := eq_true j2; replace j4 := eq_true j4; go_wp2; go_roundg k3
               case measure => have := n2.out; have := n4.out; have := s2.out; omega
               case rel => exact ⟨(g8), (by first | rfl | (simp; done) | (simp only [← h9] <;> (first | rfl | simp)) | (simp [*]; done)), H', ⟨by have := n2.out; have := n4.out; have := s2.out; omega⟩, bw_ a9, bw_ b2, ⟨hw_ HB⟩⟩
              ·rw [if_neg o9] at H; have p3 : decide (((rd_T83 l0 (g8)).f0) ≤ (rd l1 d0)) = false := decide_eq_false o9; clear o9
               have H' := mk_ H
               clear H
               have j2 : 0 ≤ ((g8) : Int) := od_
               have j4 : (g8) < (l0.length : Int) := od_
               obtain ⟨p4, o2, g4, g5⟩ := at_T83 n7.out (g8) j2 j4; cases o2
               replace g4 := (HB.out.cell (World.block_lt_of_cell? w _ g4)).trans g4
               replace g5 := (HB.out.cell (World.block_lt_of_cell? w _ g5)).trans g5
               replace j2 := eq_true j2; replace j4 := eq_true j4; go_wp2; go_meet
               case rel => exact ⟨_, (h4), rf_, H', ⟨by have := n2.out; have := n4.out; have := s2.out; first | omega | exact Nat.le_refl _⟩, bw_ a9, bw_ b2, ⟨hw_ HB⟩⟩
             ·rw [if_neg s3] at H
              exact absurd H (by simp)
            ·rw [if_neg o8] at H; have h6 : decide ((wrap64 (h4 + 1)) < (l0.length : Int)) = false := decide_eq_false o8; clear o8
             (first | rw [h6] | (simp only [i64_w, i32_w]; rw [h6]) | skip)
             have H' := mk_ H
             clear H; go_wp2; go_meet
             case rel => exact ⟨_, (h4), rf_, H', ⟨by have := n2.out; have := n4.out; have := s2.out; first | omega | exact Nat.le_refl _⟩, bw_ a9, bw_ b2, ⟨hw_ HB⟩⟩
         case rest =>
          clear n9; (try clear c1); (try clear n8); (try clear n5); (try clear l9); (try clear o6); (try clear n6); (try clear o7)
          obtain ⟨kq, b4, rfl, HA, n1, a9, b2, HB⟩ := hcut
          cases kq with
          | zero => exact absurd HA.out (by simp [impl_Used.j3])
          | succ kj19 =>
           have H := HA.out; clear HA
           simp only [impl_Used.j3] at H
           by_cases p0 : b4 < 0
           ·rw [if_pos p0] at H; have p5 : decide (b4 < 0) = true := decide_eq_true p0; clear p0
            have H' := mk_ H
            clear H; go_wp2
            go_roundg kj19
            case measure => have := n2.out; have := n4.out; have := n1.out; omega
            case rel => exact ⟨(wrap64 (d0 + 1)), (d1), (c9), (b6), (b7), rf_, H', ⟨by have := n2.out; have := n4.out; have := n1.out; omega⟩, bw_ a9, bw_ b2, ⟨hw_ HB⟩⟩
           ·rw [if_neg p0] at H; have p5 : decide (b4 < 0) = false := decide_eq_false p0; clear p0; by_cases s4 : 0 ≤ b4
            ·rw [if_pos s4] at H; have E0 : decide (0 ≤ b4) = true := decide_eq_true s4; clear s4; by_cases s5 : b4 < (l0.length : Int)
             ·rw [if_pos s5] at H; have E1 : decide (b4 < (l0.length : Int)) = true := decide_eq_true s5; clear s5; replace H := Option.bind_eq_some_iff.mp H; obtain ⟨⟨d2, d5, p6⟩, p7, H⟩ := H
              replace H : (if p6 = true then (impl_Used.l0 kj19 l0 l1 (l1.length : Int) (wrap64 (d0 + 1)) d2 d5) else (some (0, 0, false))) = some (r1, r2, r3) := H
              have E2 := mk_ p7; clear p7; by_cases s6 : p6 = true
              ·subst s6
               have H1 : (impl_Used.l0 kj19 l0 l1 (l1.length : Int) (wrap64 (d0 + 1)) d2 d5) = some (r1, r2, r3) := by rw [if_pos rfl] at H; exact H
               clear H
               have H := H1
               clear H1
               have H' := mk_ H
               clear H
               try go_wp2
               replace a9 := dB_ a9; replace b2 := dB_ b2; replace HB := dH_ HB
               have j5 : 0 ≤ (b4 : Int) := od_
               have j6 : b4 < (l0.length : Int) := od_
               obtain ⟨c4, o3, d6, d7⟩ := at_T83 n7.out b4 j5 j6
               have hw214_1 := d7
               have hw214_0 := d6
               cases o3
               replace d6 := (HB.out.cell (World.block_lt_of_cell? w _ d6)).trans d6
               replace d7 := (HB.out.cell (World.block_lt_of_cell? w _ d7)).trans d7
               replace j5 := eq_true j5; replace j6 := eq_true j6
               refine start_ (n := 13) (S := fun w' => True) (ds := []) (bs_ 13 0) (by kernel_rfl) rfl rfl trivial (fun hHeld => ?_); refine with_tabW impl_Used.tab11 impl_Used.bits11 (fun HT_ HW_ => ?_)
               generalize wc.drew = H9 at a9 b2 HB d6 d7 hHeld ⊢
               refine pu_ HT_ 1 54 (bs_ 13 2) ?_; refine pu_ HT_ 2 55 (bs_ 13 6) ?_
               refine inv_at [0, 3, 4, 5, 6, 7, 8, 9, 10, 11, 12] (fun a0_ b a w' => ∃ (b3 : Nat) (c8 : Value), a = putSel a0_ b [(0, 53, .agg #[.int .i64 b6, .int .i64 b7]), (3, 56, .pointer (some (c4.add ((b4).toNat * 2)))), (4, 57, .pointer (some ⟨(c4.add ((b4).toNat * 2)).block, (c4.add ((b4).toNat * 2)).off + 1, none⟩)), (5, 58, .int .i64 ((rd_T83 l0 b4).f1)), (6, 59, .tuple #[.agg #[.int .i64 d2, .int .i64 d5], .bool true]), (7, 52, .tuple #[.agg #[.int .i64 d2, .int .i64 d5], .bool true]), (8, 60, .agg #[.int .i64 d2, .int .i64 d5]), (9, 61, .bool true), (10, 10, c8), (12, 11, .bool true)] ∧ (w'.heap[g2]? = some (.cells #[.int .i64 d1, .int .i64 c9] 48 (0, 0))) ∧ (w'.heap[g1]? = some (.cells #[.int .i64 b6, .int .i64 b7] 48 (0, 0))) ∧ (Below w.heap.size w w') ∧ (b 10 = true → b 11 = false → w'.heap[b3]? = some (.cells #[.int .i64 0, .int .i64 0] 48 (0, 0))) ∧ (b 10 = true → w.heap.size ≤ b3) ∧ (b 10 = true → w.heap.size ≤ b3) ∧ (b 10 = true → g2 ≠ b3) ∧ (b 10 = true → b3 ≠ g2) ∧ (b 10 = true → g1 ≠ b3) ∧ (b 10 = true → b3 ≠ g1) ∧ (b 11 = true → w'.heap[b3]? = some (.cells #[.int .i64 d2, .int .i64 d5] 48 (0, 0))) ∧ (b 10 = true → (c8 : Value) = .pointer (some ⟨b3, 0, none⟩))) HT_.out HW_.out (by kernel_rfl) (by kernel_rfl) ?_ ?_ ?_
               ·exact ⟨0, .bool false, by simp only [putSel, Bool.false_eq_true, if_false], a9.out, b2.out, HB.out, fun h_ => absurd h_ (by decide), fun h_ => absurd h_ (by decide), fun h_ => absurd h_ (by decide), fun h_ => absurd h_ (by decide), fun h_ => absurd h_ (by decide), fun h_ => absurd h_ (by decide), fun h_ => absurd h_ (by decide), fun h_ => absurd h_ (by decide), fun h_ => absurd h_ (by decide)⟩
               ·skip
                clear a9 b2 HB
                refine steps_cons ?_ ?_
                ·rintro b a w' ⟨b3, c8, ha, a6, a7, Q_HB, b5, b0, b1, a2, a3, a4, a5, a8, b8⟩ hb_ hon hoff
                 refine ⟨_, rfl, fun K hK => ?_⟩
                 have e6 : a.tmps[6]? = some (.pointer (some ⟨g1, 0, none⟩)) := by rw [ha]; exact (putSel_off rfl).trans rfl
                 replace ha := mk_ ha
                 have a9 := mk_ a6; have b2 := mk_ a7; have HB := mk_ Q_HB
                 have hc0_ : w'.cell? ⟨g1, 0, none⟩ = some (.int .i64 b6) := bc0_ b2
                 have hc1_ : w'.cell? ⟨g1, 1, none⟩ = some (.int .i64 b7) := bc1_ b2
                 refine value_ (w1 := w') (v := .agg #[.int .i64 b6, .int .i64 b7]) (by rfl) rfl ?_ ?_
                 ·go_simp
                  (try simp only [i64_w])
                  try rfl
                 refine hK.out _ _ ⟨b3, c8, (by rw [ha.out]; exact putSel_upk 0 hb_ rfl rfl rfl), a6, a7, Q_HB, b5, b0, b1, a2, a3, a4, a5, of_ (hoff 11 (by kernel_rfl)), b8⟩
                refine steps_cons ?_ ?_
                ·rintro b a w' ⟨b3, c8, ha, a6, a7, Q_HB, b5, b0, b1, a2, a3, a4, a5, a8, b8⟩ hb_ hon hoff
                 refine ⟨_, rfl, fun K hK => ?_⟩
                 have G4 : a.tmps[54]? = some (.slice (some c4) l0.length c0) := by rw [ha]; exact (putSel_off rfl).trans rfl
                 have G5 : a.tmps[55]? = some (.int .i64 b4) := by rw [ha]; exact (putSel_off rfl).trans rfl
                 replace ha := mk_ ha
                 have a9 := mk_ a6; have b2 := mk_ a7; have HB := mk_ Q_HB
                 have o4 : w'.cell? (c4.add ((b4).toNat * 2)) = some (.int .i64 ((rd_T83 l0 b4).f0)) := ((HB.out.cell (World.block_lt_of_cell? w _ hw214_0)).trans hw214_0)
                 have o5 : w'.cell? ⟨(c4.add ((b4).toNat * 2)).block, (c4.add ((b4).toNat * 2)).off + 1, none⟩ = some (.int .i64 ((rd_T83 l0 b4).f1)) := ((HB.out.cell (World.block_lt_of_cell? w _ hw214_1)).trans hw214_1)
                 refine value_ (w1 := w') (v := .pointer (some (c4.add ((b4).toNat * 2)))) (by rfl) rfl ?_ ?_
                 ·go_simp
                  (try simp only [i64_w])
                  try rfl
                 refine hK.out _ _ ⟨b3, c8, (by rw [ha.out]; exact putSel_upk 1 hb_ rfl rfl rfl), a6, a7, Q_HB, b5, b0, b1, a2, a3, a4, a5, of_ (hoff 11 (by kernel_rfl)), b8⟩
                refine steps_cons ?_ ?_
                ·rintro b a w' ⟨b3, c8, ha, a6, a7, Q_HB, b5, b0, b1, a2, a3, a4, a5, a8, b8⟩ hb_ hon hoff
                 refine ⟨_, rfl, fun K hK => ?_⟩
                 have G6 : a.tmps[56]? = some (.pointer (some (c4.add ((b4).toNat * 2)))) := by rw [ha]; exact putSel_on (e := (3, 56, .pointer (some (c4.add ((b4).toNat * 2))))) 1 rfl rfl (hon 3 (by kernel_rfl)) rfl
                 replace ha := mk_ ha
                 have a9 := mk_ a6; have b2 := mk_ a7; have HB := mk_ Q_HB
                 refine value_ (w1 := w') (v := .pointer (some ⟨(c4.add ((b4).toNat * 2)).block, (c4.add ((b4).toNat * 2)).off + 1, none⟩)) (by rfl) rfl ?_ ?_
                 ·go_simp
                  (try simp only [i64_w])
                  try rfl
                 refine hK.out _ _ ⟨b3, c8, (by rw [ha.out]; exact putSel_upk 2 hb_ rfl rfl rfl), a6, a7, Q_HB, b5, b0, b1, a2, a3, a4, a5, of_ (hoff 11 (by kernel_rfl)), b8⟩
                refine steps_cons ?_ ?_
                ·rintro b a w' ⟨b3, c8, ha, a6, a7, Q_HB, b5, b0, b1, a2, a3, a4, a5, a8, b8⟩ hb_ hon hoff
                 refine ⟨_, rfl, fun K hK => ?_⟩
                 have G7 : a.tmps[57]? = some (.pointer (some ⟨(c4.add ((b4).toNat * 2)).block, (c4.add ((b4).toNat * 2)).off + 1, none⟩)) := by rw [ha]; exact putSel_on (e := (4, 57, .pointer (some ⟨(c4.add ((b4).toNat * 2)).block, (c4.add ((b4).toNat * 2)).off + 1, none⟩))) 2 rfl rfl (hon 4 (by kernel_rfl)) rfl
                 replace ha := mk_ ha
                 have a9 := mk_ a6; have b2 := mk_ a7; have HB := mk_ Q_HB
                 have o4 : w'.cell? (c4.add ((b4).toNat * 2)) = some (.int .i64 ((rd_T83 l0 b4).f0)) := ((HB.out.cell (World.block_lt_of_cell? w _ hw214_0)).trans hw214_0)
                 have o5 : w'.cell? ⟨(c4.add ((b4).toNat * 2)).block, (c4.add ((b4).toNat * 2)).off + 1, none⟩ = some (.int .i64 ((rd_T83 l0 b4).f1)) := ((HB.out.cell (World.block_lt_of_cell? w _ hw214_1)).trans hw214_1)
                 refine value_ (w1 := w') (v := .int .i64 ((rd_T83 l0 b4).f1)) (by rfl) rfl ?_ ?_
                 ·go_simp
                  (try simp only [i64_w])
                  try rfl
                 refine hK.out _ _ ⟨b3, c8, (by rw [ha.out]; exact putSel_upk 3 hb_ rfl rfl rfl), a6, a7, Q_HB, b5, b0, b1, a2, a3, a4, a5, of_ (hoff 11 (by kernel_rfl)), b8⟩
                refine steps_cons ?_ ?_
                ·rintro b a w' ⟨b3, c8, ha, a6, a7, Q_HB, b5, b0, b1, a2, a3, a4, a5, a8, b8⟩ hb_ hon hoff
                 refine ⟨_, rfl, fun K hK => ?_⟩
                 have p8 : a.tmps[53]? = some (.agg #[.int .i64 b6, .int .i64 b7]) := by rw [ha]; exact putSel_on (e := (0, 53, .agg #[.int .i64 b6, .int .i64 b7])) 0 rfl rfl (hon 0 (by kernel_rfl)) rfl
                 have p9 : a.tmps[58]? = some (.int .i64 ((rd_T83 l0 b4).f1)) := by rw [ha]; exact putSel_on (e := (5, 58, .int .i64 ((rd_T83 l0 b4).f1))) 3 rfl rfl (hon 5 (by kernel_rfl)) rfl
                 replace ha := mk_ ha
                 have a9 := mk_ a6; have b2 := mk_ a7; have HB := mk_ Q_HB
                 refine goes_ Try.func105 (by kernel_rfl) rfl #[.agg #[.int .i64 b6, .int .i64 b7], .int .i64 ((rd_T83 l0 b4).f1)] (by rfl) rfl rfl (by first | (simp only [List.map_toArray, List.map_cons, List.map_nil, Act.eval, Array.getD_eq_getD_getElem?, Option.getD_some, p8, p9]; done) | (simp only [List.map_toArray, List.map_cons, List.map_nil, Act.eval, Array.getD_eq_getD_getElem?, Option.getD_some, p8, p9]; rfl)) ?_
                 with_reducible refine (impl_addPart.calls kj19 b6 b7 ((rd_T83 l0 b4).f1) d2 d5 true _ E2.out).mono ?_
                 rintro e E3 ⟨rfl, hb⟩
                 refine ⟨_, rfl, ?_⟩
                 have q0 := bk_ a9 hb
                 have q1 := bk_ b2 hb
                 have q2 := hk_ HB hb
                 have h8 := fun (C9 : b 10 = true) (m0 : b 11 = false) => (show E3.heap[b3]? = some (.cells #[.int .i64 0, .int .i64 0] 48 (0, 0)) from by first | exact (blk_below (g := b3) (o := .cells #[.int .i64 0, .int .i64 0] 48 (0, 0)) (by (with_reducible repeat (first | refine blk_drewN ?_ _ | refine blk_drew ?_ | refine blk_alloc ?_ _)); exact (b5 C9 m0)) hb))
                 clear a9; clear b2; clear HB
                 have a9 := q0
                 have b2 := q1
                 have HB := q2
                 clear q0 q1 q2; (try clear hb); (try clear q3); (try clear hk); (try clear hi)
                 refine hK.out _ _ ⟨b3, c8, (by rw [ha.out]; exact putSel_upk 4 hb_ rfl rfl rfl), (bx_ a9), (bx_ b2), (hw_ HB), h8, b0, b1, a2, a3, a4, a5, of_ (hoff 11 (by kernel_rfl)), b8⟩
                refine steps_cons ?_ ?_
                ·rintro b a w' ⟨b3, c8, ha, a6, a7, Q_HB, b5, b0, b1, a2, a3, a4, a5, a8, b8⟩ hb_ hon hoff
                 refine ⟨_, rfl, fun K hK => ?_⟩
                 have G8 : a.tmps[59]? = some (.tuple #[.agg #[.int .i64 d2, .int .i64 d5], .bool true]) := by rw [ha]; exact putSel_on (e := (6, 59, .tuple #[.agg #[.int .i64 d2, .int .i64 d5], .bool true])) 4 rfl rfl (hon 6 (by kernel_rfl)) rfl
                 replace ha := mk_ ha
                 have a9 := mk_ a6; have b2 := mk_ a7; have HB := mk_ Q_HB
                 refine value_ (w1 := w') (v := .tuple #[.agg #[.int .i64 d2, .int .i64 d5], .bool true]) (by rfl) rfl ?_ ?_
                 ·go_simp
                  (try simp only [i64_w])
                  try rfl
                 refine hK.out _ _ ⟨b3, c8, (by rw [ha.out]; exact putSel_upk 5 hb_ rfl rfl rfl), a6, a7, Q_HB, b5, b0, b1, a2, a3, a4, a5, of_ (hoff 11 (by kernel_rfl)), b8⟩
                refine steps_cons ?_ ?_
                ·rintro b a w' ⟨b3, c8, ha, a6, a7, Q_HB, b5, b0, b1, a2, a3, a4, a5, a8, b8⟩ hb_ hon hoff
                 refine ⟨_, rfl, fun K hK => ?_⟩
                 have D0 : a.tmps[52]? = some (.tuple #[.agg #[.int .i64 d2, .int .i64 d5], .bool true]) := by rw [ha]; exact putSel_on (e := (7, 52, .tuple #[.agg #[.int .i64 d2, .int .i64 d5], .bool true])) 5 rfl rfl (hon 7 (by kernel_rfl)) rfl
                 replace ha := mk_ ha
                 have a9 := mk_ a6; have b2 := mk_ a7; have HB := mk_ Q_HB
                 refine value_ (w1 := w') (v := .agg #[.int .i64 d2, .int .i64 d5]) (by rfl) rfl ?_ ?_
                 ·go_simp
                  (try simp only [i64_w])
                  try rfl
                 refine hK.out _ _ ⟨b3, c8, (by rw [ha.out]; exact putSel_upk 6 hb_ rfl rfl rfl), a6, a7, Q_HB, b5, b0, b1, a2, a3, a4, a5, of_ (hoff 11 (by kernel_rfl)), b8⟩
                refine steps_cons ?_ ?_
                ·rintro b a w' ⟨b3, c8, ha, a6, a7, Q_HB, b5, b0, b1, a2, a3, a4, a5, a8, b8⟩ hb_ hon hoff
                 refine ⟨_, rfl, fun K hK => ?_⟩
                 have D0 : a.tmps[52]? = some (.tuple #[.agg #[.int .i64 d2, .int .i64 d5], .bool true]) := by rw [ha]; exact putSel_on (e := (7, 52, .tuple #[.agg #[.int .i64 d2, .int .i64 d5], .bool true])) 5 rfl rfl (hon 7 (by kernel_rfl)) rfl
                 replace ha := mk_ ha
                 have a9 := mk_ a6; have b2 := mk_ a7; have HB := mk_ Q_HB
                 refine value_ (w1 := w') (v := .bool true) (by rfl) rfl ?_ ?_
                 ·go_simp
                  (try simp only [i64_w])
                  try rfl
                 refine hK.out _ _ ⟨b3, c8, (by rw [ha.out]; exact putSel_upk 7 hb_ rfl rfl rfl), a6, a7, Q_HB, b5, b0, b1, a2, a3, a4, a5, a8, b8⟩
                refine steps_cons ?_ ?_
                ·rintro b a w' ⟨b3, c8, ha, a6, a7, Q_HB, b5, b0, b1, a2, a3, a4, a5, a8, b8⟩ hb_ hon hoff
                 refine ⟨_, rfl, fun K hK => ?_⟩
                 replace ha := mk_ ha
                 have a9 := mk_ a6; have b2 := mk_ a7; have HB := mk_ Q_HB
                 refine box_step ?hg (N := 10) ?hd (cs := #[.int .i64 0, .int .i64 0]) (t := 48) ?hr ?_; (case hd => rfl); (case hg => rfl); (case hr => exact hr_)
                 intro b3 hg E3 hbox hb
                 have d3 := mk_ (hbox); have g6 := gk_ hg HB; have g3 := gk_ hg HB; replace HB := hk_ HB hb; have b9 := nk_ hg a9; have c3 := nj_ hg a9; replace a9 := bk_ a9 hb; have c2 := nk_ hg b2; have c5 := nj_ hg b2; replace b2 := bk_ b2 hb; clear hb hbox hg
                 refine hK.out _ _ ⟨b3, (.pointer (some ⟨b3, 0, none⟩)), (by rw [ha.out]; exact putSel_upk 8 hb_ rfl rfl rfl), (bx_ a9), (bx_ b2), (hw_ HB), fun _ _ => (bx_ d3), fun _ => g6.out, fun _ => g3.out, fun _ => b9.out, fun _ => c3.out, fun _ => c2.out, fun _ => c5.out, of_ (hoff 11 (by kernel_rfl)), fun _ => rfl⟩
                refine steps_cons ?_ ?_
                ·rintro b a w' ⟨b3, c8, ha, a6, a7, Q_HB, b5, b0, b1, a2, a3, a4, a5, a8, b8⟩ hb_ hon hoff
                 refine ⟨_, rfl, fun K hK => ?_⟩
                 have D1 : a.tmps[10]? = some (c8) := by rw [ha]; exact putSel_on (e := (10, 10, c8)) 8 rfl rfl (hon 10 (by kernel_rfl)) rfl
                 rw [b8 (hon 10 (by kernel_rfl))] at D1
                 have G9 : a.tmps[60]? = some (.agg #[.int .i64 d2, .int .i64 d5]) := by rw [ha]; exact putSel_on (e := (8, 60, .agg #[.int .i64 d2, .int .i64 d5])) 6 rfl rfl (hon 8 (by kernel_rfl)) rfl
                 replace ha := mk_ ha
                 have a9 := mk_ a6; have b2 := mk_ a7; have HB := mk_ Q_HB; have d3 := mk_ (b5 (hon 10 (by kernel_rfl)) hb_); have g6 := mk_ (b0 (hon 10 (by kernel_rfl))); have g3 := mk_ (b1 (hon 10 (by kernel_rfl))); have b9 := mk_ (a2 (hon 10 (by kernel_rfl))); have c3 := mk_ (a3 (hon 10 (by kernel_rfl))); have c2 := mk_ (a4 (hon 10 (by kernel_rfl))); have c5 := mk_ (a5 (hon 10 (by kernel_rfl)))
                 have H0 : w'.cell? ⟨b3, 0, none⟩ = some (.int .i64 0) := bc0_ d3
                 have E4 := blk_frozen d3.out 0
                 have s7 := b9.out; have s8 := c2.out
                 have s9 := c3.out; have t0 := c5.out
                 have H2 : w'.cell? ⟨b3, 1, none⟩ = some (.int .i64 0) := bc1_ d3
                 have E5 := blk_frozen d3.out 1
                 have t1 := b9.out; have t2 := c2.out
                 have t3 := c3.out; have t4 := c5.out
                 refine skip_ (w1 := ?_) (by rfl) rfl ?_ ?_
                 rotate_left
                 ·go_simp
                  rfl
                 refine hK.out _ _ ⟨b3, c8, (by rw [ha.out]; exact putSel_none (v := undef) rfl), (by (with_reducible repeat (first | refine blk_drewN ?_ _ | refine blk_drew ?_ | refine blk_alloc ?_ _)); refine blk_far ?_ b9.out _; (with_reducible repeat (first | refine blk_drewN ?_ _ | refine blk_drew ?_ | refine blk_alloc ?_ _)); refine blk_far ?_ b9.out _; (with_reducible repeat (first | refine blk_drewN ?_ _ | refine blk_drew ?_ | refine blk_alloc ?_ _)); exact a9.out), (by (with_reducible repeat (first | refine blk_drewN ?_ _ | refine blk_drew ?_ | refine blk_alloc ?_ _)); refine blk_far ?_ c2.out _; (with_reducible repeat (first | refine blk_drewN ?_ _ | refine blk_drew ?_ | refine blk_alloc ?_ _)); refine blk_far ?_ c2.out _; (with_reducible repeat (first | refine blk_drewN ?_ _ | refine blk_drew ?_ | refine blk_alloc ?_ _)); exact b2.out), (by repeat (first | (with_reducible first | exact HB.out | apply below_alloc | apply pw_below_drewN | apply below_drew1 | refine below_set ?_ g3.out) | exact HB.out)), fun _ m0 => absurd ((up_self b 11).symm.trans m0) (by decide), fun _ => g6.out, fun _ => g3.out, fun _ => b9.out, fun _ => c3.out, fun _ => c2.out, fun _ => c5.out, fun _ => (by (with_reducible repeat (first | refine blk_drewN ?_ _ | refine blk_drew ?_ | refine blk_alloc ?_ _)); refine blk_put (cs := #[.int .i64 d2, .int .i64 0]) ?_ 1 _ rfl; (with_reducible repeat (first | refine blk_drewN ?_ _ | refine blk_drew ?_ | refine blk_alloc ?_ _)); refine blk_put (cs := #[.int .i64 0, .int .i64 0]) ?_ 0 _ rfl; (with_reducible repeat (first | refine blk_drewN ?_ _ | refine blk_drew ?_ | refine blk_alloc ?_ _)); exact d3.out), b8⟩
                refine steps_cons ?_ ?_
                ·rintro b a w' ⟨b3, c8, ha, a6, a7, Q_HB, b5, b0, b1, a2, a3, a4, a5, a8, b8⟩ hb_ hon hoff
                 refine ⟨_, rfl, fun K hK => ?_⟩
                 have H3 : a.tmps[61]? = some (.bool true) := by rw [ha]; exact putSel_on (e := (9, 61, .bool true)) 7 rfl rfl (hon 9 (by kernel_rfl)) rfl
                 replace ha := mk_ ha
                 have a9 := mk_ a6; have b2 := mk_ a7; have HB := mk_ Q_HB; have g6 := mk_ (b0 (hon 10 (by kernel_rfl))); have g3 := mk_ (b1 (hon 10 (by kernel_rfl))); have b9 := mk_ (a2 (hon 10 (by kernel_rfl))); have c3 := mk_ (a3 (hon 10 (by kernel_rfl))); have c2 := mk_ (a4 (hon 10 (by kernel_rfl))); have c5 := mk_ (a5 (hon 10 (by kernel_rfl))); have d3 := mk_ (a8 (hon 11 (by kernel_rfl)))
                 refine value_ (w1 := w') (v := .bool true) (by rfl) rfl ?_ ?_
                 ·go_simp
                  (try simp only [i64_w])
                  try rfl
                 refine hK.out _ _ ⟨b3, c8, (by rw [ha.out]; exact putSel_upk 9 hb_ rfl rfl rfl), a6, a7, Q_HB, fun _ m0 => absurd ((hon 11 (by kernel_rfl)).symm.trans m0) (by decide), b0, b1, a2, a3, a4, a5, a8, b8⟩
                exact steps_nil
               rintro b a I0 hall ⟨b3, c8, ha, a6, a7, Q_HB, b5, b0, b1, a2, a3, a4, a5, a8, b8⟩
               clear a9 b2 HB
               have m1 := hall 0 (by kernel_rfl)
               have m2 := hall 3 (by kernel_rfl)
               have m3 := hall 4 (by kernel_rfl)
               have m4 := hall 5 (by kernel_rfl)
               have m5 := hall 6 (by kernel_rfl)
               have m6 := hall 7 (by kernel_rfl)
               have m7 := hall 8 (by kernel_rfl)
               have m8 := hall 9 (by kernel_rfl)
               have d8 := hall 10 (by kernel_rfl)
               have h5 := hall 11 (by kernel_rfl)
               have j1 := hall 12 (by kernel_rfl)
               subst ha
               obtain rfl := b8 d8
               simp only [putSel, m1, m2, m3, m4, m5, m6, m7, m8, d8, h5, j1, if_true, Act.put, List.setIfInBounds_toArray, List.set_cons_zero, List.set_cons_succ]
               have a9 := mk_ a6; clear a6; have b2 := mk_ a7; clear a7; have HB := mk_ Q_HB; clear Q_HB; clear b5; have g6 := mk_ (b0 d8); clear b0; have g3 := mk_ (b1 d8); clear b1; have b9 := mk_ (a2 d8); clear a2; have c3 := mk_ (a3 d8); clear a3; have c2 := mk_ (a4 d8); clear a4; have c5 := mk_ (a5 d8); clear a5; have d3 := mk_ (a8 h5); clear a8; clear hall m1 m2 m3 m4 m5 m6 m7 m8 d8 h5 j1; have E6 := c3.out; have E7 := b9.out; have E8 := c5.out; have E9 := c2.out; have t5 := bc0_ d3; have t6 := bc1_ d3; have t7 := bf_ d3 0; have t8 := bf_ d3 1; have F0 := g7.out; have F1 := d4.out; have t9 := bc0_ b2; have y8 := bc1_ b2; have y9 := bf_ b2 0; have A2 := bf_ b2 1
               try go_wp2
               go_roundg kj19
               case measure => have := n2.out; have := n4.out; have := n1.out; omega
               case rel => exact ⟨(wrap64 (d0 + 1)), (d1), (c9), (d2), (d5), rf_, H', ⟨by have := n2.out; have := n4.out; have := n1.out; omega⟩, ⟨by (with_reducible repeat (first | refine blk_drewN ?_ _ | refine blk_drew ?_ | refine blk_alloc ?_ _)); refine blk_far ?_ d4.out _; (with_reducible repeat (first | refine blk_drewN ?_ _ | refine blk_drew ?_ | refine blk_alloc ?_ _)); refine blk_far ?_ d4.out _; (with_reducible repeat (first | refine blk_drewN ?_ _ | refine blk_drew ?_ | refine blk_alloc ?_ _)); exact a9.out⟩, ⟨by (with_reducible repeat (first | refine blk_drewN ?_ _ | refine blk_drew ?_ | refine blk_alloc ?_ _)); refine blk_put (cs := #[.int .i64 d2, .int .i64 b7]) ?_ 1 _ rfl; (with_reducible repeat (first | refine blk_drewN ?_ _ | refine blk_drew ?_ | refine blk_alloc ?_ _)); refine blk_put (cs := #[.int .i64 b6, .int .i64 b7]) ?_ 0 _ rfl; (with_reducible repeat (first | refine blk_drewN ?_ _ | refine blk_drew ?_ | refine blk_alloc ?_ _)); exact b2.out⟩, ⟨by repeat (first | (with_reducible first | exact HB.out | apply below_alloc | apply pw_below_drewN | apply below_drew1 | refine below_set ?_ n3.out) | exact HB.out)⟩⟩
              ·replace s6 := Bool.eq_false_iff.mpr s6; subst s6
               have H1 : (some (0, 0, false)) = some (r1, r2, r3) := by rw [if_neg (show ¬ (false = true) by decide)] at H; exact H
               clear H
               have H := H1
               clear H1
               simp only [Option.some.injEq, Prod.mk.injEq] at H
               obtain ⟨rfl, rfl, rfl⟩ := H
               try go_wp2
               replace a9 := dB_ a9; replace b2 := dB_ b2; replace HB := dH_ HB
               have j5 : 0 ≤ (b4 : Int) := od_
               have j6 : b4 < (l0.length : Int) := od_
               obtain ⟨c4, o3, d6, d7⟩ := at_T83 n7.out b4 j5 j6
               have hw214_1 := d7
               have hw214_0 := d6
               cases o3
               replace d6 := (HB.out.cell (World.block_lt_of_cell? w _ d6)).trans d6
               replace d7 := (HB.out.cell (World.block_lt_of_cell? w _ d7)).trans d7
               replace j5 := eq_true j5; replace j6 := eq_true j6
               refine start_ (n := 13) (S := fun w' => True) (ds := []) (bs_ 13 0) (by kernel_rfl) rfl rfl trivial (fun hHeld => ?_); refine with_tabW impl_Used.tab11 impl_Used.bits11 (fun HT_ HW_ => ?_)
               generalize wc.drew = I1 at a9 b2 HB d6 d7 hHeld ⊢
               refine pu_ HT_ 1 54 (bs_ 13 2) ?_; refine pu_ HT_ 2 55 (bs_ 13 6) ?_
               refine inv_at [0, 3, 4, 5, 6, 7, 8, 9, 10, 11, 12] (fun a0_ b a w' => ∃ (b3 : Nat) (c8 : Value), a = putSel a0_ b [(0, 53, .agg #[.int .i64 b6, .int .i64 b7]), (3, 56, .pointer (some (c4.add ((b4).toNat * 2)))), (4, 57, .pointer (some ⟨(c4.add ((b4).toNat * 2)).block, (c4.add ((b4).toNat * 2)).off + 1, none⟩)), (5, 58, .int .i64 ((rd_T83 l0 b4).f1)), (6, 59, .tuple #[.agg #[.int .i64 d2, .int .i64 d5], .bool false]), (7, 52, .tuple #[.agg #[.int .i64 d2, .int .i64 d5], .bool false]), (8, 60, .agg #[.int .i64 d2, .int .i64 d5]), (9, 61, .bool false), (10, 10, c8), (12, 11, .bool false)] ∧ (w'.heap[g2]? = some (.cells #[.int .i64 d1, .int .i64 c9] 48 (0, 0))) ∧ (w'.heap[g1]? = some (.cells #[.int .i64 b6, .int .i64 b7] 48 (0, 0))) ∧ (Below w.heap.size w w') ∧ (b 10 = true → b 11 = false → w'.heap[b3]? = some (.cells #[.int .i64 0, .int .i64 0] 48 (0, 0))) ∧ (b 10 = true → w.heap.size ≤ b3) ∧ (b 10 = true → w.heap.size ≤ b3) ∧ (b 10 = true → g2 ≠ b3) ∧ (b 10 = true → b3 ≠ g2) ∧ (b 10 = true → g1 ≠ b3) ∧ (b 10 = true → b3 ≠ g1) ∧ (b 11 = true → w'.heap[b3]? = some (.cells #[.int .i64 d2, .int .i64 d5] 48 (0, 0))) ∧ (b 10 = true → (c8 : Value) = .pointer (some ⟨b3, 0, none⟩))) HT_.out HW_.out (by kernel_rfl) (by kernel_rfl) ?_ ?_ ?_
               ·exact ⟨0, .bool false, by simp only [putSel, Bool.false_eq_true, if_false], a9.out, b2.out, HB.out, fun h_ => absurd h_ (by decide), fun h_ => absurd h_ (by decide), fun h_ => absurd h_ (by decide), fun h_ => absurd h_ (by decide), fun h_ => absurd h_ (by decide), fun h_ => absurd h_ (by decide), fun h_ => absurd h_ (by decide), fun h_ => absurd h_ (by decide), fun h_ => absurd h_ (by decide)⟩
               ·skip
                clear a9 b2 HB
                refine steps_cons ?_ ?_
                ·rintro b a w' ⟨b3, c8, ha, a6, a7, Q_HB, b5, b0, b1, a2, a3, a4, a5, a8, b8⟩ hb_ hon hoff
                 refine ⟨_, rfl, fun K hK => ?_⟩
                 have e6 : a.tmps[6]? = some (.pointer (some ⟨g1, 0, none⟩)) := by rw [ha]; exact (putSel_off rfl).trans rfl
                 replace ha := mk_ ha
                 have a9 := mk_ a6; have b2 := mk_ a7; have HB := mk_ Q_HB
                 have hc0_ : w'.cell? ⟨g1, 0, none⟩ = some (.int .i64 b6) := bc0_ b2
                 have hc1_ : w'.cell? ⟨g1, 1, none⟩ = some (.int .i64 b7) := bc1_ b2
                 refine value_ (w1 := w') (v := .agg #[.int .i64 b6, .int .i64 b7]) (by rfl) rfl ?_ ?_
                 ·go_simp
                  (try simp only [i64_w])
                  try rfl
                 refine hK.out _ _ ⟨b3, c8, (by rw [ha.out]; exact putSel_upk 0 hb_ rfl rfl rfl), a6, a7, Q_HB, b5, b0, b1, a2, a3, a4, a5, of_ (hoff 11 (by kernel_rfl)), b8⟩
                refine steps_cons ?_ ?_
                ·rintro b a w' ⟨b3, c8, ha, a6, a7, Q_HB, b5, b0, b1, a2, a3, a4, a5, a8, b8⟩ hb_ hon hoff
                 refine ⟨_, rfl, fun K hK => ?_⟩
                 have G4 : a.tmps[54]? = some (.slice (some c4) l0.length c0) := by rw [ha]; exact (putSel_off rfl).trans rfl
                 have G5 : a.tmps[55]? = some (.int .i64 b4) := by rw [ha]; exact (putSel_off rfl).trans rfl
                 replace ha := mk_ ha
                 have a9 := mk_ a6; have b2 := mk_ a7; have HB := mk_ Q_HB
                 have o4 : w'.cell? (c4.add ((b4).toNat * 2)) = some (.int .i64 ((rd_T83 l0 b4).f0)) := ((HB.out.cell (World.block_lt_of_cell? w _ hw214_0)).trans hw214_0)
                 have o5 : w'.cell? ⟨(c4.add ((b4).toNat * 2)).block, (c4.add ((b4).toNat * 2)).off + 1, none⟩ = some (.int .i64 ((rd_T83 l0 b4).f1)) := ((HB.out.cell (World.block_lt_of_cell? w _ hw214_1)).trans hw214_1)
                 refine value_ (w1 := w') (v := .pointer (some (c4.add ((b4).toNat * 2)))) (by rfl) rfl ?_ ?_
                 ·go_simp
                  (try simp only [i64_w])
                  try rfl
                 refine hK.out _ _ ⟨b3, c8, (by rw [ha.out]; exact putSel_upk 1 hb_ rfl rfl rfl), a6, a7, Q_HB, b5, b0, b1, a2, a3, a4, a5, of_ (hoff 11 (by kernel_rfl)), b8⟩
                refine steps_cons ?_ ?_
                ·rintro b a w' ⟨b3, c8, ha, a6, a7, Q_HB, b5, b0, b1, a2, a3, a4, a5, a8, b8⟩ hb_ hon hoff
                 refine ⟨_, rfl, fun K hK => ?_⟩
                 have G6 : a.tmps[56]? = some (.pointer (some (c4.add ((b4).toNat * 2)))) := by rw [ha]; exact putSel_on (e := (3, 56, .pointer (some (c4.add ((b4).toNat * 2))))) 1 rfl rfl (hon 3 (by kernel_rfl)) rfl
                 replace ha := mk_ ha
                 have a9 := mk_ a6; have b2 := mk_ a7; have HB := mk_ Q_HB
                 refine value_ (w1 := w') (v := .pointer (some ⟨(c4.add ((b4).toNat * 2)).block, (c4.add ((b4).toNat * 2)).off + 1, none⟩)) (by rfl) rfl ?_ ?_
                 ·go_simp
                  (try simp only [i64_w])
                  try rfl
                 refine hK.out _ _ ⟨b3, c8, (by rw [ha.out]; exact putSel_upk 2 hb_ rfl rfl rfl), a6, a7, Q_HB, b5, b0, b1, a2, a3, a4, a5, of_ (hoff 11 (by kernel_rfl)), b8⟩
                refine steps_cons ?_ ?_
                ·rintro b a w' ⟨b3, c8, ha, a6, a7, Q_HB, b5, b0, b1, a2, a3, a4, a5, a8, b8⟩ hb_ hon hoff
                 refine ⟨_, rfl, fun K hK => ?_⟩
                 have G7 : a.tmps[57]? = some (.pointer (some ⟨(c4.add ((b4).toNat * 2)).block, (c4.add ((b4).toNat * 2)).off + 1, none⟩)) := by rw [ha]; exact putSel_on (e := (4, 57, .pointer (some ⟨(c4.add ((b4).toNat * 2)).block, (c4.add ((b4).toNat * 2)).off + 1, none⟩))) 2 rfl rfl (hon 4 (by kernel_rfl)) rfl
                 replace ha := mk_ ha
                 have a9 := mk_ a6; have b2 := mk_ a7; have HB := mk_ Q_HB
                 have o4 : w'.cell? (c4.add ((b4).toNat * 2)) = some (.int .i64 ((rd_T83 l0 b4).f0)) := ((HB.out.cell (World.block_lt_of_cell? w _ hw214_0)).trans hw214_0)
                 have o5 : w'.cell? ⟨(c4.add ((b4).toNat * 2)).block, (c4.add ((b4).toNat * 2)).off + 1, none⟩ = some (.int .i64 ((rd_T83 l0 b4).f1)) := ((HB.out.cell (World.block_lt_of_cell? w _ hw214_1)).trans hw214_1)
                 refine value_ (w1 := w') (v := .int .i64 ((rd_T83 l0 b4).f1)) (by rfl) rfl ?_ ?_
                 ·go_simp
                  (try simp only [i64_w])
                  try rfl
                 refine hK.out _ _ ⟨b3, c8, (by rw [ha.out]; exact putSel_upk 3 hb_ rfl rfl rfl), a6, a7, Q_HB, b5, b0, b1, a2, a3, a4, a5, of_ (hoff 11 (by kernel_rfl)), b8⟩
                refine steps_cons ?_ ?_
                ·rintro b a w' ⟨b3, c8, ha, a6, a7, Q_HB, b5, b0, b1, a2, a3, a4, a5, a8, b8⟩ hb_ hon hoff
                 refine ⟨_, rfl, fun K hK => ?_⟩
                 have p8 : a.tmps[53]? = some (.agg #[.int .i64 b6, .int .i64 b7]) := by rw [ha]; exact putSel_on (e := (0, 53, .agg #[.int .i64 b6, .int .i64 b7])) 0 rfl rfl (hon 0 (by kernel_rfl)) rfl
                 have p9 : a.tmps[58]? = some (.int .i64 ((rd_T83 l0 b4).f1)) := by rw [ha]; exact putSel_on (e := (5, 58, .int .i64 ((rd_T83 l0 b4).f1))) 3 rfl rfl (hon 5 (by kernel_rfl)) rfl
                 replace ha := mk_ ha
                 have a9 := mk_ a6; have b2 := mk_ a7; have HB := mk_ Q_HB
                 refine goes_ Try.func105 (by kernel_rfl) rfl #[.agg #[.int .i64 b6, .int .i64 b7], .int .i64 ((rd_T83 l0 b4).f1)] (by rfl) rfl rfl (by first | (simp only [List.map_toArray, List.map_cons, List.map_nil, Act.eval, Array.getD_eq_getD_getElem?, Option.getD_some, p8, p9]; done) | (simp only [List.map_toArray, List.map_cons, List.map_nil, Act.eval, Array.getD_eq_getD_getElem?, Option.getD_some, p8, p9]; rfl)) ?_
                 with_reducible refine (impl_addPart.calls kj19 b6 b7 ((rd_T83 l0 b4).f1) d2 d5 false _ E2.out).mono ?_
                 rintro e F2 ⟨rfl, hb⟩
                 refine ⟨_, rfl, ?_⟩
                 have q0 := bk_ a9 hb
                 have q1 := bk_ b2 hb
                 have q2 := hk_ HB hb
                 have h8 := fun (C9 : b 10 = true) (m0 : b 11 = false) => (show F2.heap[b3]? = some (.cells #[.int .i64 0, .int .i64 0] 48 (0, 0)) from by first | exact (blk_below (g := b3) (o := .cells #[.int .i64 0, .int .i64 0] 48 (0, 0)) (by (with_reducible repeat (first | refine blk_drewN ?_ _ | refine blk_drew ?_ | refine blk_alloc ?_ _)); exact (b5 C9 m0)) hb))
                 clear a9; clear b2; clear HB
                 have a9 := q0
                 have b2 := q1
                 have HB := q2
                 clear q0 q1 q2; (try clear hb); (try clear q3); (try clear hk); (try clear hi)
                 refine hK.out _ _ ⟨b3, c8, (by rw [ha.out]; exact putSel_upk 4 hb_ rfl rfl rfl), (bx_ a9), (bx_ b2), (hw_ HB), h8, b0, b1, a2, a3, a4, a5, of_ (hoff 11 (by kernel_rfl)), b8⟩
                refine steps_cons ?_ ?_
                ·rintro b a w' ⟨b3, c8, ha, a6, a7, Q_HB, b5, b0, b1, a2, a3, a4, a5, a8, b8⟩ hb_ hon hoff
                 refine ⟨_, rfl, fun K hK => ?_⟩
                 have G8 : a.tmps[59]? = some (.tuple #[.agg #[.int .i64 d2, .int .i64 d5], .bool false]) := by rw [ha]; exact putSel_on (e := (6, 59, .tuple #[.agg #[.int .i64 d2, .int .i64 d5], .bool false])) 4 rfl rfl (hon 6 (by kernel_rfl)) rfl
                 replace ha := mk_ ha
                 have a9 := mk_ a6; have b2 := mk_ a7; have HB := mk_ Q_HB
                 refine value_ (w1 := w') (v := .tuple #[.agg #[.int .i64 d2, .int .i64 d5], .bool false]) (by rfl) rfl ?_ ?_
                 ·go_simp
                  (try simp only [i64_w])
                  try rfl
                 refine hK.out _ _ ⟨b3, c8, (by rw [ha.out]; exact putSel_upk 5 hb_ rfl rfl rfl), a6, a7, Q_HB, b5, b0, b1, a2, a3, a4, a5, of_ (hoff 11 (by kernel_rfl)), b8⟩
                refine steps_cons ?_ ?_
                ·rintro b a w' ⟨b3, c8, ha, a6, a7, Q_HB, b5, b0, b1, a2, a3, a4, a5, a8, b8⟩ hb_ hon hoff
                 refine ⟨_, rfl, fun K hK => ?_⟩
                 have D0 : a.tmps[52]? = some (.tuple #[.agg #[.int .i64 d2, .int .i64 d5], .bool false]) := by rw [ha]; exact putSel_on (e := (7, 52, .tuple #[.agg #[.int .i64 d2, .int .i64 d5], .bool false])) 5 rfl rfl (hon 7 (by kernel_rfl)) rfl
                 replace ha := mk_ ha
                 have a9 := mk_ a6; have b2 := mk_ a7; have HB := mk_ Q_HB
                 refine value_ (w1 := w') (v := .agg #[.int .i64 d2, .int .i64 d5]) (by rfl) rfl ?_ ?_
                 ·go_simp
                  (try simp only [i64_w])
                  try rfl
                 refine hK.out _ _ ⟨b3, c8, (by rw [ha.out]; exact putSel_upk 6 hb_ rfl rfl rfl), a6, a7, Q_HB, b5, b0, b1, a2, a3, a4, a5, of_ (hoff 11 (by kernel_rfl)), b8⟩
                refine steps_cons ?_ ?_
                ·rintro b a w' ⟨b3, c8, ha, a6, a7, Q_HB, b5, b0, b1, a2, a3, a4, a5, a8, b8⟩ hb_ hon hoff
                 refine ⟨_, rfl, fun K hK => ?_⟩
                 have D0 : a.tmps[52]? = some (.tuple #[.agg #[.int .i64 d2, .int .i64 d5], .bool false]) := by rw [ha]; exact putSel_on (e := (7, 52, .tuple #[.agg #[.int .i64 d2, .int .i64 d5], .bool false])) 5 rfl rfl (hon 7 (by kernel_rfl)) rfl
                 replace ha := mk_ ha
                 have a9 := mk_ a6; have b2 := mk_ a7; have HB := mk_ Q_HB
                 refine value_ (w1 := w') (v := .bool false) (by rfl) rfl ?_ ?_
                 ·go_simp
                  (try simp only [i64_w])
                  try rfl
                 refine hK.out _ _ ⟨b3, c8, (by rw [ha.out]; exact putSel_upk 7 hb_ rfl rfl rfl), a6, a7, Q_HB, b5, b0, b1, a2, a3, a4, a5, a8, b8⟩
                refine steps_cons ?_ ?_
                ·rintro b a w' ⟨b3, c8, ha, a6, a7, Q_HB, b5, b0, b1, a2, a3, a4, a5, a8, b8⟩ hb_ hon hoff
                 refine ⟨_, rfl, fun K hK => ?_⟩
                 replace ha := mk_ ha
                 have a9 := mk_ a6; have b2 := mk_ a7; have HB := mk_ Q_HB
                 refine box_step ?hg (N := 10) ?hd (cs := #[.int .i64 0, .int .i64 0]) (t := 48) ?hr ?_; (case hd => rfl); (case hg => rfl); (case hr => exact hr_)
                 intro b3 hg F2 hbox hb
                 have d3 := mk_ (hbox); have g6 := gk_ hg HB; have g3 := gk_ hg HB; replace HB := hk_ HB hb; have b9 := nk_ hg a9; have c3 := nj_ hg a9; replace a9 := bk_ a9 hb; have c2 := nk_ hg b2; have c5 := nj_ hg b2; replace b2 := bk_ b2 hb; clear hb hbox hg
                 refine hK.out _ _ ⟨b3, (.pointer (some ⟨b3, 0, none⟩)), (by rw [ha.out]; exact putSel_upk 8 hb_ rfl rfl rfl), (bx_ a9), (bx_ b2), (hw_ HB), fun _ _ => (bx_ d3), fun _ => g6.out, fun _ => g3.out, fun _ => b9.out, fun _ => c3.out, fun _ => c2.out, fun _ => c5.out, of_ (hoff 11 (by kernel_rfl)), fun _ => rfl⟩
                refine steps_cons ?_ ?_
                ·rintro b a w' ⟨b3, c8, ha, a6, a7, Q_HB, b5, b0, b1, a2, a3, a4, a5, a8, b8⟩ hb_ hon hoff
                 refine ⟨_, rfl, fun K hK => ?_⟩
                 have D1 : a.tmps[10]? = some (c8) := by rw [ha]; exact putSel_on (e := (10, 10, c8)) 8 rfl rfl (hon 10 (by kernel_rfl)) rfl
                 rw [b8 (hon 10 (by kernel_rfl))] at D1
                 have G9 : a.tmps[60]? = some (.agg #[.int .i64 d2, .int .i64 d5]) := by rw [ha]; exact putSel_on (e := (8, 60, .agg #[.int .i64 d2, .int .i64 d5])) 6 rfl rfl (hon 8 (by kernel_rfl)) rfl
                 replace ha := mk_ ha
                 have a9 := mk_ a6; have b2 := mk_ a7; have HB := mk_ Q_HB; have d3 := mk_ (b5 (hon 10 (by kernel_rfl)) hb_); have g6 := mk_ (b0 (hon 10 (by kernel_rfl))); have g3 := mk_ (b1 (hon 10 (by kernel_rfl))); have b9 := mk_ (a2 (hon 10 (by kernel_rfl))); have c3 := mk_ (a3 (hon 10 (by kernel_rfl))); have c2 := mk_ (a4 (hon 10 (by kernel_rfl))); have c5 := mk_ (a5 (hon 10 (by kernel_rfl)))
                 have H4 : w'.cell? ⟨b3, 0, none⟩ = some (.int .i64 0) := bc0_ d3
                 have F3 := blk_frozen d3.out 0
                 have A3 := b9.out; have A4 := c2.out
                 have A6 := c3.out; have A7 := c5.out
                 have H5 : w'.cell? ⟨b3, 1, none⟩ = some (.int .i64 0) := bc1_ d3
                 have F4 := blk_frozen d3.out 1
                 have A8 := b9.out; have B0 := c2.out
                 have B1 := c3.out; have B2 := c5.out
                 refine skip_ (w1 := ?_) (by rfl) rfl ?_ ?_
                 rotate_left
                 ·go_simp
                  rfl
                 refine hK.out _ _ ⟨b3, c8, (by rw [ha.out]; exact putSel_none (v := undef) rfl), (by (with_reducible repeat (first | refine blk_drewN ?_ _ | refine blk_drew ?_ | refine blk_alloc ?_ _)); refine blk_far ?_ b9.out _; (with_reducible repeat (first | refine blk_drewN ?_ _ | refine blk_drew ?_ | refine blk_alloc ?_ _)); refine blk_far ?_ b9.out _; (with_reducible repeat (first | refine blk_drewN ?_ _ | refine blk_drew ?_ | refine blk_alloc ?_ _)); exact a9.out), (by (with_reducible repeat (first | refine blk_drewN ?_ _ | refine blk_drew ?_ | refine blk_alloc ?_ _)); refine blk_far ?_ c2.out _; (with_reducible repeat (first | refine blk_drewN ?_ _ | refine blk_drew ?_ | refine blk_alloc ?_ _)); refine blk_far ?_ c2.out _; (with_reducible repeat (first | refine blk_drewN ?_ _ | refine blk_drew ?_ | refine blk_alloc ?_ _)); exact b2.out), (by repeat (first | (with_reducible first | exact HB.out | apply below_alloc | apply pw_below_drewN | apply below_drew1 | refine below_set ?_ g3.out) | exact HB.out)), fun _ m0 => absurd ((up_self b 11).symm.trans m0) (by decide), fun _ => g6.out, fun _ => g3.out, fun _ => b9.out, fun _ => c3.out, fun _ => c2.out, fun _ => c5.out, fun _ => (by (with_reducible repeat (first | refine blk_drewN ?_ _ | refine blk_drew ?_ | refine blk_alloc ?_ _)); refine blk_put (cs := #[.int .i64 d2, .int .i64 0]) ?_ 1 _ rfl; (with_reducible repeat (first | refine blk_drewN ?_ _ | refine blk_drew ?_ | refine blk_alloc ?_ _)); refine blk_put (cs := #[.int .i64 0, .int .i64 0]) ?_ 0 _ rfl; (with_reducible repeat (first | refine blk_drewN ?_ _ | refine blk_drew ?_ | refine blk_alloc ?_ _)); exact d3.out), b8⟩
                refine steps_cons ?_ ?_
                ·rintro b a w' ⟨b3, c8, ha, a6, a7, Q_HB, b5, b0, b1, a2, a3, a4, a5, a8, b8⟩ hb_ hon hoff
                 refine ⟨_, rfl, fun K hK => ?_⟩
                 have H3 : a.tmps[61]? = some (.bool false) := by rw [ha]; exact putSel_on (e := (9, 61, .bool false)) 7 rfl rfl (hon 9 (by kernel_rfl)) rfl
                 replace ha := mk_ ha
                 have a9 := mk_ a6; have b2 := mk_ a7; have HB := mk_ Q_HB; have g6 := mk_ (b0 (hon 10 (by kernel_rfl))); have g3 := mk_ (b1 (hon 10 (by kernel_rfl))); have b9 := mk_ (a2 (hon 10 (by kernel_rfl))); have c3 := mk_ (a3 (hon 10 (by kernel_rfl))); have c2 := mk_ (a4 (hon 10 (by kernel_rfl))); have c5 := mk_ (a5 (hon 10 (by kernel_rfl))); have d3 := mk_ (a8 (hon 11 (by kernel_rfl)))
                 refine value_ (w1 := w') (v := .bool false) (by rfl) rfl ?_ ?_
                 ·go_simp
                  (try simp only [i64_w])
                  try rfl
                 refine hK.out _ _ ⟨b3, c8, (by rw [ha.out]; exact putSel_upk 9 hb_ rfl rfl rfl), a6, a7, Q_HB, fun _ m0 => absurd ((hon 11 (by kernel_rfl)).symm.trans m0) (by decide), b0, b1, a2, a3, a4, a5, a8, b8⟩
                exact steps_nil
               rintro b a I2 hall ⟨b3, c8, ha, a6, a7, Q_HB, b5, b0, b1, a2, a3, a4, a5, a8, b8⟩
               clear a9 b2 HB
               have m1 := hall 0 (by kernel_rfl)
               have m2 := hall 3 (by kernel_rfl)
               have m3 := hall 4 (by kernel_rfl)
               have m4 := hall 5 (by kernel_rfl)
               have m5 := hall 6 (by kernel_rfl)
               have m6 := hall 7 (by kernel_rfl)
               have m7 := hall 8 (by kernel_rfl)
               have m8 := hall 9 (by kernel_rfl)
               have d8 := hall 10 (by kernel_rfl)
               have h5 := hall 11 (by kernel_rfl)
               have j1 := hall 12 (by kernel_rfl)
               subst ha
               obtain rfl := b8 d8
               simp only [putSel, m1, m2, m3, m4, m5, m6, m7, m8, d8, h5, j1, if_true, Act.put, List.setIfInBounds_toArray, List.set_cons_zero, List.set_cons_succ]
               have a9 := mk_ a6; clear a6; have b2 := mk_ a7; clear a7; have HB := mk_ Q_HB; clear Q_HB; clear b5; have g6 := mk_ (b0 d8); clear b0; have g3 := mk_ (b1 d8); clear b1; have b9 := mk_ (a2 d8); clear a2; have c3 := mk_ (a3 d8); clear a3; have c2 := mk_ (a4 d8); clear a4; have c5 := mk_ (a5 d8); clear a5; have d3 := mk_ (a8 h5); clear a8; clear hall m1 m2 m3 m4 m5 m6 m7 m8 d8 h5 j1; have F5 := d4.out; have F6 := g7.out; have F7 := b9.out; have F8 := c3.out; have B3 := bc0_ a9; have B4 := bc1_ a9; have B5 := bf_ a9 0; have B6 := bf_ a9 1
               try go_wp2
               refine bodyPost_ret (results_ct rfl _ _ g2 48 #[.int .i64 0, .int .i64 0] (0, 0) _ rfl (by (with_reducible repeat (first | refine blk_drewN ?_ _ | refine blk_drew ?_ | refine blk_alloc ?_ _)); refine blk_put (cs := #[.int .i64 0, .int .i64 c9]) ?_ 1 _ rfl; (with_reducible repeat (first | refine blk_drewN ?_ _ | refine blk_drew ?_ | refine blk_alloc ?_ _)); refine blk_put (cs := #[.int .i64 d1, .int .i64 c9]) ?_ 0 _ rfl; (with_reducible repeat (first | refine blk_drewN ?_ _ | refine blk_drew ?_ | refine blk_alloc ?_ _)); exact a9.out) Try.underlying48 rfl (by kernel_rfl)) rfl ?_
               exact ⟨re_, by repeat (first | (with_reducible first | exact HB.out | apply below_alloc | apply pw_below_drewN | apply below_drew1 | refine below_set ?_ l7.out) | exact HB.out)⟩
             ·rw [if_neg s5] at H
              exact absurd H (by simp)
            ·rw [if_neg s4] at H
             exact absurd H (by simp)
        ·rw [if_neg o7] at H
         exact absurd H (by simp)
       ·rw [if_neg o6] at H
        exact absurd H (by simp)
      ·rw [if_neg n5] at H; have l9 : decide (d0 < (l1.length : Int)) = false := decide_eq_false n5; clear n5
       simp only [Option.some.injEq, Prod.mk.injEq] at H
       obtain ⟨rfl, rfl, rfl⟩ := H; have F9 := g7.out
       have G0 := d4.out; have B7 := bc0_ b2
       have B8 := bc1_ b2; have B9 := bf_ b2 0; have C0 := bf_ b2 1; have C1 := bc0_ a9; have C2 := bc1_ a9; have C3 := bf_ a9 0; have C4 := bf_ a9 1; go_wp2
       refine bodyPost_ret (results_ct rfl _ _ g2 48 #[.int .i64 b6, .int .i64 b7] (0, 0) _ rfl (by (with_reducible repeat (first | refine blk_drewN ?_ _ | refine blk_drew ?_ | refine blk_alloc ?_ _)); refine blk_put (cs := #[.int .i64 b6, .int .i64 c9]) ?_ 1 _ rfl; (with_reducible repeat (first | refine blk_drewN ?_ _ | refine blk_drew ?_ | refine blk_alloc ?_ _)); refine blk_put (cs := #[.int .i64 d1, .int .i64 c9]) ?_ 0 _ rfl; (with_reducible repeat (first | refine blk_drewN ?_ _ | refine blk_drew ?_ | refine blk_alloc ?_ _)); exact a9.out) Try.underlying48 rfl (by kernel_rfl)) rfl ?_
       exact ⟨re_, by repeat (first | (with_reducible first | exact HB.out | apply below_alloc | apply pw_below_drewN | apply below_drew1 | refine below_set ?_ l7.out) | exact HB.out)⟩

end Go.Proofs.Ytnphbpkpjinddaa.QFnCycles
-- squeezed
