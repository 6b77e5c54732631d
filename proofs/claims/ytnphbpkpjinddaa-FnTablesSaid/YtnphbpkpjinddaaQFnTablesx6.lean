/- Lean functions that tell what the Go functions used by one law answer, and for each a proof that the Go code comes to just these answers; no condition. Printed by this session's own program over the kit's printer. -/
import Derived.Test.YtnphbpkpjinddaaWSq
import Derived.Test.YtnphbpkpjinddaaQFnTablesx0
import Derived.Test.YtnphbpkpjinddaaQFnTablesx1
namespace Go.Proofs.Ytnphbpkpjinddaa.QFnTables
open Go.RowKit Go.Proofs.YtnphbpkpjinddaaW.PrintWords Go.Proofs.YtnphbpkpjinddaaW.PrintLast Go.Proofs.YtnphbpkpjinddaaW.PrintMore
attribute [local go_sem] max2_int min2_int max_two min_two max_three min_three max_four min_four   -- for this text's walks alone
attribute [local go_sem high] go_eql go_neq go_lss go_leq go_gtr go_geq go_store   -- for this text's walks alone
set_option linter.unusedVariables false
set_option linter.unusedSimpArgs false

/-! ### impl_Find: function 34 -/
mutual
def impl_Find.j0 : Nat → Int → Bool → List Int → List Int → Option (Int × Bool)
 | 0, _, _, _, _ => none
 | k + 1, x1, q8, a6, a8 => if q8 = true then (some (0, false)) else (impl_Find.l0 k (mx x1 (-100000)) (wrap64 ((a6.length : Int) - 1)) 0 a6 a8)
def impl_Find.l0 : Nat → Int → Int → Int → List Int → List Int → Option (Int × Bool)
 | 0, _, _, _, _, _ => none
 | k + 1, x1, j9, h1, a6, a8 => if h1 < j9 then (if 0 ≤ h1 then (if h1 < (a6.length : Int) then (impl_Find.l1 k x1 h1 (rd a6 h1) j9 h1 a6 a8) else (none)) else (none)) else (some (0, false))
def impl_Find.l1 : Nat → Int → Int → Int → Int → Int → List Int → List Int → Option (Int × Bool)
 | 0, _, _, _, _, _, _, _ => none
 | k + 1, x1, x6, x7, j9, h1, a6, a8 => if 0 ≤ (wrap64 (x6 + 1)) then (if (wrap64 (x6 + 1)) < (a6.length : Int) then (if x7 ≤ (rd a6 (wrap64 (x6 + 1))) then (if 0 ≤ x6 then (if x6 < (a6.length : Int) then (if x6 < (a8.length : Int) then (if (wrap64 (x6 + 1)) < (a8.length : Int) then ((impl_between.f (rd a6 x6) (rd a6 (wrap64 (x6 + 1))) (rd a8 x6) (rd a8 (wrap64 (x6 + 1))) x7).bind fun d0 => (if d0.1 ≥ (wrap64 (x1 * d0.2)) then (some (x7, true)) else (impl_Find.l1 k x1 x6 (wrap64 (x7 + 1)) j9 h1 a6 a8))) else (none)) else (none)) else (none)) else (none)) else (impl_Find.l0 k x1 j9 (wrap64 (h1 + 1)) a6 a8)) else (none)) else (none)
end
def impl_Find.f (k : Nat) (l0_0 : List Int) (l0_1 : List Int) (a1 : Int) : Option (Int × Bool) := (impl_CurveOk.f k l0_0 l0_1).bind fun g5 => (if g5 = true then (impl_Find.j0 k a1 (decide (a1 > 100000)) l0_0 l0_1) else (impl_Find.j0 k a1 true l0_0 l0_1))
theorem impl_Find.mono_l : ∀ k, (∀ y0 y1 y2 y3, LeO (impl_Find.j0 k y0 y1 y2 y3) (impl_Find.j0 (k + 1) y0 y1 y2 y3)) ∧ (∀ y0 y1 y2 y3 y4, LeO (impl_Find.l0 k y0 y1 y2 y3 y4) (impl_Find.l0 (k + 1) y0 y1 y2 y3 y4)) ∧ (∀ y0 y1 y2 y3 y4 y5 y6, LeO (impl_Find.l1 k y0 y1 y2 y3 y4 y5 y6) (impl_Find.l1 (k + 1) y0 y1 y2 y3 y4 y5 y6))
 | 0 => ⟨fun _ _ _ _ r h => by simp [impl_Find.j0] at h, fun _ _ _ _ _ r h => by simp [impl_Find.l0] at h, fun _ _ _ _ _ _ _ r h => by simp [impl_Find.l1] at h⟩
 | k + 1 => by
  obtain ⟨h2, h3, h4⟩ := impl_Find.mono_l k
  refine ⟨?_, ?_, ?_⟩
  ·intro y0 y1 y2 y3
   unfold impl_Find.j0
   repeat' first
   | (with_reducible exact h2 _ _ _ _)
   | (with_reducible exact h3 _ _ _ _ _)
   | (with_reducible exact h4 _ _ _ _ _ _ _)
   | (with_reducible exact impl_CurveOk.mono _ _ _)
   | (with_reducible exact LeO.refl _)
   | (with_reducible exact LeO.none _)
   | (with_reducible refine LeO.ite ?_ ?_)
   | (with_reducible refine LeO.bind ?_ (fun _ => ?_))
   | exact h2 _ _ _ _
   | exact h3 _ _ _ _ _
   | exact h4 _ _ _ _ _ _ _
   | exact impl_CurveOk.mono _ _ _
   | exact LeO.none _
   | refine LeO.ite ?_ ?_
   | refine LeO.bind ?_ (fun _ => ?_)
  ·intro y0 y1 y2 y3 y4
   unfold impl_Find.l0
   repeat' first
   | (with_reducible exact h2 _ _ _ _)
   | (with_reducible exact h3 _ _ _ _ _)
   | (with_reducible exact h4 _ _ _ _ _ _ _)
   | (with_reducible exact impl_CurveOk.mono _ _ _)
   | (with_reducible exact LeO.refl _)
   | (with_reducible exact LeO.none _)
   | (with_reducible refine LeO.ite ?_ ?_)
   | (with_reducible refine LeO.bind ?_ (fun _ => ?_))
   | exact h2 _ _ _ _
   | exact h3 _ _ _ _ _
   | exact h4 _ _ _ _ _ _ _
   | exact impl_CurveOk.mono _ _ _
   | exact LeO.none _
   | refine LeO.ite ?_ ?_
   | refine LeO.bind ?_ (fun _ => ?_)
  ·intro y0 y1 y2 y3 y4 y5 y6
   unfold impl_Find.l1
   repeat' first
   | (with_reducible exact h2 _ _ _ _)
   | (with_reducible exact h3 _ _ _ _ _)
   | (with_reducible exact h4 _ _ _ _ _ _ _)
   | (with_reducible exact impl_CurveOk.mono _ _ _)
   | (with_reducible exact LeO.refl _)
   | (with_reducible exact LeO.none _)
   | (with_reducible refine LeO.ite ?_ ?_)
   | (with_reducible refine LeO.bind ?_ (fun _ => ?_))
   | exact h2 _ _ _ _
   | exact h3 _ _ _ _ _
   | exact h4 _ _ _ _ _ _ _
   | exact impl_CurveOk.mono _ _ _
   | exact LeO.none _
   | refine LeO.ite ?_ ?_
   | refine LeO.bind ?_ (fun _ => ?_)
theorem impl_Find.mono : ∀ a0 a1 a2 k, LeO (impl_Find.f k a0 a1 a2) (impl_Find.f (k + 1) a0 a1 a2) := by
 intro a0 a1 a2 k
 obtain ⟨h2, h3, h4⟩ := impl_Find.mono_l k
 unfold impl_Find.f
 repeat' first
   | (with_reducible exact h2 _ _ _ _)
   | (with_reducible exact h3 _ _ _ _ _)
   | (with_reducible exact h4 _ _ _ _ _ _ _)
   | (with_reducible exact impl_CurveOk.mono _ _ _)
   | (with_reducible exact LeO.refl _)
   | (with_reducible exact LeO.none _)
   | (with_reducible refine LeO.ite ?_ ?_)
   | (with_reducible refine LeO.bind ?_ (fun _ => ?_))
   | exact h2 _ _ _ _
   | exact h3 _ _ _ _ _
   | exact h4 _ _ _ _ _ _ _
   | exact impl_CurveOk.mono _ _ _
   | exact LeO.none _
   | refine LeO.ite ?_ ?_
   | refine LeO.bind ?_ (fun _ => ?_)
set_option maxHeartbeats 8000000 in
set_option maxRecDepth 100000 in
theorem impl_Find.calls (k : Nat) (A0_0 : Option Addr) (c0_0 : Nat) (l0_0 : List Int) (A0_1 : Option Addr) (c0_1 : Nat) (l0_1 : List Int) (a1 : Int) (r1 : Int) (r2 : Bool) (w : World) (hr0_0 : Kd.C (Kd.int .i64) w A0_0 l0_0.length l0_0) (hc0_0 : l0_0.length ≤ c0_0) (hr0_1 : Kd.C (Kd.int .i64) w A0_1 l0_1.length l0_1) (hc0_1 : l0_1.length ≤ c0_1) (h : impl_Find.f k l0_0 l0_1 a1 = some (r1, r2)) :
  Calls Try.prog 34 #[.agg #[.slice A0_0 l0_0.length c0_0, .slice A0_1 l0_1.length c0_1], .int .i64 a1] w fun e w' => e = .returned (.tuple #[.int .i64 r1, .bool r2]) ∧ Below w.heap.size w w' := by
 have q9 := Try.underlying51
 have a9 := mk_ hr0_0; have c7 := mk_ hc0_0; clear hr0_0 hc0_0; have b9 := mk_ hr0_1; have c8 := mk_ hc0_1; clear hr0_1 hc0_1; have HB := mk_ (Below.refl w.heap.size w)
 have H : ((impl_CurveOk.f k l0_0 l0_1).bind fun g5 => (if g5 = true then (impl_Find.j0 k a1 (decide (a1 > 100000)) l0_0 l0_1) else (impl_Find.j0 k a1 true l0_0 l0_1))) = some (r1, r2) := h
 clear h; have o8 := mk_ H; clear H
 go_enter Try.func34, Try.ntmps34
 go_upto_region 1 with (first | ((with_reducible refine gd_ 2 rfl ?_); refine box_event ?hg (N := 2) ?hd (cs := #[.slice A0_0 l0_0.length c0_0, .slice A0_1 l0_1.length c0_1]) (t := 51) ?hr ?_; (case hd => rfl); (case hg => rfl); (case hr => exact hr_); intro d1 hg w4 hbox hb; have a4 := mk_ (hbox); have d2 := gk_ hg HB; replace HB := hk_ HB hb; have h5 := d2; clear hb hbox hg))
 repeat (go_quiet (first | ((with_reducible refine gd_ 2 rfl ?_); refine box_event ?hg (N := 2) ?hd (cs := #[.slice A0_0 l0_0.length c0_0, .slice A0_1 l0_1.length c0_1]) (t := 51) ?hr ?_; (case hd => rfl); (case hg => rfl); (case hr => exact hr_); intro d1 hg w4 hbox hb; have a4 := mk_ (hbox); have d2 := gk_ hg HB; replace HB := hk_ HB hb; have h5 := d2; clear hb hbox hg)); go_upto_region 1 with (first | ((with_reducible refine gd_ 2 rfl ?_); refine box_event ?hg (N := 2) ?hd (cs := #[.slice A0_0 l0_0.length c0_0, .slice A0_1 l0_1.length c0_1]) (t := 51) ?hr ?_; (case hd => rfl); (case hg => rfl); (case hr => exact hr_); intro d1 hg w4 hbox hb; have a4 := mk_ (hbox); have d2 := gk_ hg HB; replace HB := hk_ HB hb; have h5 := d2; clear hb hbox hg)))
 (try simp only [Act.put, List.setIfInBounds_toArray, List.set_cons_zero, List.set_cons_succ])
 go_cut [16] (fun v16 wc => ∃ (kq : Nat) (g4 : Bool), v16 = .bool g4 ∧ Aside0 (impl_Find.j0 kq a1 g4 l0_0 l0_1 = some (r1, r2)) ∧ Aside0 (kq ≤ k) ∧ Aside0 (wc.heap[d1]? = some (.cells #[(.slice A0_0 l0_0.length c0_0), (.slice A0_1 l0_1.length c0_1)] 51 (0, 0))) ∧ Aside0 (Below w.heap.size w wc))
 case first => as_aux_lemma =>
  have H := o8.out; clear o8; replace H := Option.bind_eq_some_iff.mp H; obtain ⟨g5, p9, H⟩ := H
  replace H : (if g5 = true then (impl_Find.j0 k a1 (decide (a1 > 100000)) l0_0 l0_1) else (impl_Find.j0 k a1 true l0_0 l0_1)) = some (r1, r2) := H
  have A5 := mk_ p9; clear p9; by_cases c6 : g5 = true
  ·subst c6
   have H1 : (impl_Find.j0 k a1 (decide (a1 > 100000)) l0_0 l0_1) = some (r1, r2) := by rw [if_pos rfl] at H; exact H
   clear H
   have H := H1
   clear H1
   have H' := mk_ H
   clear H; have o9 := bc0_ a4; have p0 := bc1_ a4; have p1 := bf_ a4 0; have p2 := bf_ a4 1
   go_wp2_with (first | (go_at_call 32; (with_reducible refine (impl_CurveOk.calls k _ _ l0_0 _ _ l0_1 true _ ?b5 ?b6 ?b7 ?b8 A5.out).mono ?_); (case b5 => exact cw_ (Kd.C_below a9.out HB.out)); (case b6 => exact c7.out); (case b7 => exact cw_ (Kd.C_below b9.out HB.out)); (case b8 => exact c8.out); rintro e w8 ⟨rfl, hb⟩; replace a4 := bk_ a4 hb; replace HB := hk_ HB hb; (try clear hb); (try clear l2); (try clear hk); (try clear hi)))
   repeat (go_quiet (first | (go_at_call 32; (with_reducible refine (impl_CurveOk.calls k _ _ l0_0 _ _ l0_1 true _ ?b5 ?b6 ?b7 ?b8 A5.out).mono ?_); (case b5 => exact cw_ (Kd.C_below a9.out HB.out)); (case b6 => exact c7.out); (case b7 => exact cw_ (Kd.C_below b9.out HB.out)); (case b8 => exact c8.out); rintro e w8 ⟨rfl, hb⟩; replace a4 := bk_ a4 hb; replace HB := hk_ HB hb; (try clear hb); (try clear l2); (try clear hk); (try clear hi))); try go_wp2_with (first | (go_at_call 32; (with_reducible refine (impl_CurveOk.calls k _ _ l0_0 _ _ l0_1 true _ ?b5 ?b6 ?b7 ?b8 A5.out).mono ?_); (case b5 => exact cw_ (Kd.C_below a9.out HB.out)); (case b6 => exact c7.out); (case b7 => exact cw_ (Kd.C_below b9.out HB.out)); (case b8 => exact c8.out); rintro e w8 ⟨rfl, hb⟩; replace a4 := bk_ a4 hb; replace HB := hk_ HB hb; (try clear hb); (try clear l2); (try clear hk); (try clear hi))))
   go_meet
   case rel => exact ⟨_, (decide (a1 > 100000)), rf_, H', ⟨by first | omega | exact Nat.le_refl _⟩, bw_ a4, ⟨hw_ HB⟩⟩
  ·replace c6 := Bool.eq_false_iff.mpr c6; subst c6
   have H1 : (impl_Find.j0 k a1 true l0_0 l0_1) = some (r1, r2) := by rw [if_neg (show ¬ (false = true) by decide)] at H; exact H
   clear H
   have H := H1
   clear H1
   have H' := mk_ H
   clear H; have p3 := bc0_ a4; have p4 := bc1_ a4; have p5 := bf_ a4 0; have p6 := bf_ a4 1
   go_wp2_with (first | (go_at_call 32; (with_reducible refine (impl_CurveOk.calls k _ _ l0_0 _ _ l0_1 false _ ?b5 ?b6 ?b7 ?b8 A5.out).mono ?_); (case b5 => exact cw_ (Kd.C_below a9.out HB.out)); (case b6 => exact c7.out); (case b7 => exact cw_ (Kd.C_below b9.out HB.out)); (case b8 => exact c8.out); rintro e q0 ⟨rfl, hb⟩; replace a4 := bk_ a4 hb; replace HB := hk_ HB hb; (try clear hb); (try clear l2); (try clear hk); (try clear hi)))
   repeat (go_quiet (first | (go_at_call 32; (with_reducible refine (impl_CurveOk.calls k _ _ l0_0 _ _ l0_1 false _ ?b5 ?b6 ?b7 ?b8 A5.out).mono ?_); (case b5 => exact cw_ (Kd.C_below a9.out HB.out)); (case b6 => exact c7.out); (case b7 => exact cw_ (Kd.C_below b9.out HB.out)); (case b8 => exact c8.out); rintro e q0 ⟨rfl, hb⟩; replace a4 := bk_ a4 hb; replace HB := hk_ HB hb; (try clear hb); (try clear l2); (try clear hk); (try clear hi))); try go_wp2_with (first | (go_at_call 32; (with_reducible refine (impl_CurveOk.calls k _ _ l0_0 _ _ l0_1 false _ ?b5 ?b6 ?b7 ?b8 A5.out).mono ?_); (case b5 => exact cw_ (Kd.C_below a9.out HB.out)); (case b6 => exact c7.out); (case b7 => exact cw_ (Kd.C_below b9.out HB.out)); (case b8 => exact c8.out); rintro e q0 ⟨rfl, hb⟩; replace a4 := bk_ a4 hb; replace HB := hk_ HB hb; (try clear hb); (try clear l2); (try clear hk); (try clear hi))))
   go_meet
   case rel => exact ⟨_, (true), rf_, H', ⟨by first | omega | exact Nat.le_refl _⟩, bw_ a4, ⟨hw_ HB⟩⟩
 case rest => as_aux_lemma =>
  clear o8
  obtain ⟨kq, g4, rfl, HA, l9, a4, HB⟩ := hcut
  cases kq with
  | zero => exact absurd HA.out (by simp [impl_Find.j0])
  | succ kj2 =>
   have H := HA.out; clear HA
   simp only [impl_Find.j0] at H
   by_cases j5 : g4 = true
   ·subst j5
    have H1 : (some (0, false)) = some (r1, r2) := by rw [if_pos rfl] at H; exact H
    clear H
    have H := H1
    clear H1
    simp only [Option.some.injEq, Prod.mk.injEq] at H
    obtain ⟨rfl, rfl⟩ := H; go_wp2
    repeat (go_quiet (fail); try go_wp2)
    go_ret2
    exact ⟨re_, hw_ HB⟩
   ·replace j5 := Bool.eq_false_iff.mpr j5; subst j5
    have H1 : (impl_Find.l0 kj2 (mx a1 (-100000)) (wrap64 ((l0_0.length : Int) - 1)) 0 l0_0 l0_1) = some (r1, r2) := by rw [if_neg (show ¬ (false = true) by decide)] at H; exact H
    clear H
    have H := H1
    clear H1
    obtain ⟨c1, d3⟩ : ∃ j_ : Int, (mx a1 (-100000)) = j_ := ⟨_, rfl⟩
    replace H : (impl_Find.l0 kj2 c1 (wrap64 ((l0_0.length : Int) - 1)) 0 l0_0 l0_1) = some (r1, r2) := by first | (rw [d3] at H; exact H) | (simp only [d3] at H ⊢; exact H)
    have p7 : (if a1 < (-100000) then (-100000) else a1) = c1 := d3
    have H' := mk_ H
    clear H; have m0 := bc0_ a4; have m1 := bc1_ a4; have m2 := bf_ a4 0; have m3 := bf_ a4 1; go_wp2
    repeat (go_quiet (fail); try go_wp2)
    go_loopg [23] kj2 (fun kq v23 w' => ∃ (a3 : Int), v23 = .int .i64 a3 ∧ Aside0 (impl_Find.l0 kq c1 (wrap64 ((l0_0.length : Int) - 1)) a3 l0_0 l0_1 = some (r1, r2)) ∧ Aside0 (kq ≤ kj2) ∧ Aside0 (w'.heap[d1]? = some (.cells #[(.slice A0_0 l0_0.length c0_0), (.slice A0_1 l0_1.length c0_1)] 51 (0, 0))) ∧ Aside0 (Below w.heap.size w w'))
    case atStart => exact ⟨(0), rf_, H', ⟨Nat.le_refl _⟩, bw_ a4, ⟨hw_ HB⟩⟩
    case round => as_aux_lemma =>
     clear H'; (try clear j5)
     obtain ⟨a3, rfl, HA, m4, a4, HB⟩ := hrel
     cases gk with
     | zero => exact absurd HA.out (by simp [impl_Find.l0])
     | succ k2 =>
      have H := HA.out; clear HA
      simp only [impl_Find.l0] at H
      by_cases h7 : a3 < (wrap64 ((l0_0.length : Int) - 1))
      ·rw [if_pos h7] at H; have h6 : decide (a3 < (wrap64 ((l0_0.length : Int) - 1))) = true := decide_eq_true h7; clear h7; by_cases l3 : 0 ≤ a3
       ·rw [if_pos l3] at H; have l4 : decide (0 ≤ a3) = true := decide_eq_true l3; clear l3; by_cases l5 : a3 < (l0_0.length : Int)
        ·rw [if_pos l5] at H; have q1 : decide (a3 < (l0_0.length : Int)) = true := decide_eq_true l5; clear l5
         have H' := mk_ H
         clear H; have m5 := bc0_ a4; have m6 := bc1_ a4; have m7 := bf_ a4 0; have m8 := bf_ a4 1
         have h8 : 0 ≤ (a3 : Int) := od_
         have h9 : a3 < (l0_0.length : Int) := od_
         obtain ⟨c0, p8, c9⟩ := Kd.at_int a9.out a3 h8 h9; cases p8
         replace c9 := (HB.out.cell (World.block_lt_of_cell? w _ c9)).trans c9
         replace h8 := eq_true h8; replace h9 := eq_true h9; go_wp2
         repeat (go_quiet (fail); try go_wp2)
         go_loopg [7] k2 (fun kq v7 w' => ∃ (b0 : Int), v7 = .int .i64 b0 ∧ Aside0 (impl_Find.l1 kq c1 a3 b0 (wrap64 ((l0_0.length : Int) - 1)) a3 l0_0 l0_1 = some (r1, r2)) ∧ Aside0 (kq ≤ k2) ∧ Aside0 (w'.heap[d1]? = some (.cells #[(.slice (some c0) l0_0.length c0_0), (.slice A0_1 l0_1.length c0_1)] 51 (0, 0))) ∧ Aside0 (Below w.heap.size w w'))
         case atStart => exact ⟨(rd l0_0 a3), rf_, H', ⟨Nat.le_refl _⟩, bw_ a4, ⟨hw_ HB⟩⟩
         case round => as_aux_lemma =>
          clear H'; (try clear j5); (try clear h7); (try clear h6); (try clear l3); (try clear l4); (try clear l5)
          obtain ⟨b0, rfl, HA, m9, a4, HB⟩ := hrel
          cases gk with
          | zero => exact absurd HA.out (by simp [impl_Find.l1])
          | succ k3 =>
           have H := HA.out; clear HA
           simp only [impl_Find.l1] at H
           obtain ⟨a5, d4⟩ : ∃ j_ : Int, (wrap64 (a3 + 1)) = j_ := ⟨_, rfl⟩
           replace H : (if 0 ≤ (a5) then (if (a5) < (l0_0.length : Int) then (if b0 ≤ (rd l0_0 (a5)) then (if 0 ≤ a3 then (if a3 < (l0_0.length : Int) then (if a3 < (l0_1.length : Int) then (if (a5) < (l0_1.length : Int) then ((impl_between.f (rd l0_0 a3) (rd l0_0 (a5)) (rd l0_1 a3) (rd l0_1 (a5)) b0).bind fun d0 => (if d0.1 ≥ (wrap64 (c1 * d0.2)) then (some (b0, true)) else (impl_Find.l1 k3 c1 a3 (wrap64 (b0 + 1)) (wrap64 ((l0_0.length : Int) - 1)) a3 l0_0 l0_1))) else (none)) else (none)) else (none)) else (none)) else (impl_Find.l0 k3 c1 (wrap64 ((l0_0.length : Int) - 1)) a5 l0_0 l0_1)) else (none)) else (none)) = some (r1, r2) := by first | (rw [d4] at H; exact H) | (simp only [d4] at H ⊢; exact H)
           have hji18w : (IntKind.i64.wrap (a3 + 1)) = a5 := (i64_w _).trans d4
           by_cases n0 : 0 ≤ (a5)
           ·rw [if_pos n0] at H; have q2 : decide (0 ≤ (a5)) = true := decide_eq_true n0; clear n0; by_cases n1 : (a5) < (l0_0.length : Int)
            ·rw [if_pos n1] at H; have q3 : decide ((a5) < (l0_0.length : Int)) = true := decide_eq_true n1; clear n1; by_cases j6 : b0 ≤ (rd l0_0 (a5))
             ·rw [if_pos j6] at H; have l6 : decide (b0 ≤ (rd l0_0 (a5))) = true := decide_eq_true j6; clear j6; by_cases n2 : 0 ≤ a3
              ·rw [if_pos n2] at H; have q4 : decide (0 ≤ a3) = true := decide_eq_true n2; clear n2; by_cases n3 : a3 < (l0_0.length : Int)
               ·rw [if_pos n3] at H; have q5 : decide (a3 < (l0_0.length : Int)) = true := decide_eq_true n3; clear n3; by_cases n4 : a3 < (l0_1.length : Int)
                ·rw [if_pos n4] at H; have q6 : decide (a3 < (l0_1.length : Int)) = true := decide_eq_true n4; clear n4; by_cases n5 : (a5) < (l0_1.length : Int)
                 ·rw [if_pos n5] at H; have q7 : decide ((a5) < (l0_1.length : Int)) = true := decide_eq_true n5; clear n5; replace H := Option.bind_eq_some_iff.mp H; obtain ⟨⟨c4, c5⟩, l7, H⟩ := H
                  replace H : (if c4 ≥ (wrap64 (c1 * c5)) then (some (b0, true)) else (impl_Find.l1 k3 c1 a3 (wrap64 (b0 + 1)) (wrap64 ((l0_0.length : Int) - 1)) a3 l0_0 l0_1)) = some (r1, r2) := H
                  have j7 := mk_ l7; clear l7; by_cases j8 : c4 ≥ (wrap64 (c1 * c5))
                  ·rw [if_pos j8] at H; have l8 : decide ((wrap64 (c1 * c5)) ≤ c4) = true := decide_eq_true j8; clear j8
                   simp only [Option.some.injEq, Prod.mk.injEq] at H
                   obtain ⟨rfl, rfl⟩ := H; have n6 := bc0_ a4
                   have n7 := bc1_ a4; have n8 := bf_ a4 0; have n9 := bf_ a4 1
                   have c2 : 0 ≤ ((a5) : Int) := od_
                   have c3 : (a5) < (l0_0.length : Int) := od_
                   obtain ⟨d5, g6, a7⟩ := Kd.at_int a9.out (a5) c2 c3; obtain rfl : c0 = d5 := (by injection g6)
                   replace a7 := (HB.out.cell (World.block_lt_of_cell? w _ a7)).trans a7
                   replace c2 := eq_true c2; replace c3 := eq_true c3
                   have d6 : 0 ≤ (a3 : Int) := od_
                   have d7 : a3 < (l0_0.length : Int) := od_
                   obtain ⟨g7, j1, b1⟩ := Kd.at_int a9.out a3 d6 d7; obtain rfl : c0 = g7 := (by injection j1)
                   replace b1 := (HB.out.cell (World.block_lt_of_cell? w _ b1)).trans b1
                   replace d6 := eq_true d6; replace d7 := eq_true d7
                   have d8 : 0 ≤ ((a5) : Int) := od_
                   have d9 : (a5) < (l0_0.length : Int) := od_
                   obtain ⟨g8, j2, b2⟩ := Kd.at_int a9.out (a5) d8 d9; obtain rfl : c0 = g8 := (by injection j2)
                   replace b2 := (HB.out.cell (World.block_lt_of_cell? w _ b2)).trans b2
                   replace d8 := eq_true d8; replace d9 := eq_true d9
                   have g0 : 0 ≤ (a3 : Int) := od_
                   have g1 : a3 < (l0_1.length : Int) := od_
                   obtain ⟨g9, j3, b3⟩ := Kd.at_int b9.out a3 g0 g1; cases j3
                   replace b3 := (HB.out.cell (World.block_lt_of_cell? w _ b3)).trans b3
                   replace g0 := eq_true g0; replace g1 := eq_true g1
                   have g2 : 0 ≤ ((a5) : Int) := od_
                   have g3 : (a5) < (l0_1.length : Int) := od_
                   obtain ⟨h0, j4, b4⟩ := Kd.at_int b9.out (a5) g2 g3; obtain rfl : g9 = h0 := (by injection j4)
                   replace b4 := (HB.out.cell (World.block_lt_of_cell? w _ b4)).trans b4
                   replace g2 := eq_true g2; replace g3 := eq_true g3
                   go_wp2_with (first | (go_at_call 79; (with_reducible refine (impl_between.calls (rd l0_0 a3) (rd l0_0 (a5)) (rd l0_1 a3) (rd l0_1 (a5)) b0 c4 c5 _ j7.out).mono ?_); rintro e w' ⟨rfl, ⟨nd, rfl⟩⟩; (try first | exact ⟨rfl, _, World.drewN_drewN _ _ _⟩ | exact ⟨rfl, _, Eq.trans (World.drewN_drewN _ _ _) (congrArg (World.drewN _) (Nat.add_assoc _ _ _))⟩)))
                   repeat (go_quiet (first | (go_at_call 79; (with_reducible refine (impl_between.calls (rd l0_0 a3) (rd l0_0 (a5)) (rd l0_1 a3) (rd l0_1 (a5)) b0 c4 c5 _ j7.out).mono ?_); rintro e w' ⟨rfl, ⟨nd, rfl⟩⟩; (try first | exact ⟨rfl, _, World.drewN_drewN _ _ _⟩ | exact ⟨rfl, _, Eq.trans (World.drewN_drewN _ _ _) (congrArg (World.drewN _) (Nat.add_assoc _ _ _))⟩))); try go_wp2_with (first | (go_at_call 79; (with_reducible refine (impl_between.calls (rd l0_0 a3) (rd l0_0 (a5)) (rd l0_1 a3) (rd l0_1 (a5)) b0 c4 c5 _ j7.out).mono ?_); rintro e w' ⟨rfl, ⟨nd, rfl⟩⟩; (try first | exact ⟨rfl, _, World.drewN_drewN _ _ _⟩ | exact ⟨rfl, _, Eq.trans (World.drewN_drewN _ _ _) (congrArg (World.drewN _) (Nat.add_assoc _ _ _))⟩))))
                   go_ret2
                   exact ⟨by first | rfl | (simp [errW_none, errW_some] <;> rfl) | (simp only [← d3, ← d4]; first | rfl | (simp [errW_none, errW_some] <;> rfl)) | (simp [*, errW_none, errW_some] <;> rfl), hw_ HB⟩
                  ·rw [if_neg j8] at H; have l8 : decide ((wrap64 (c1 * c5)) ≤ c4) = false := decide_eq_false j8; clear j8
                   have H' := mk_ H
                   clear H; have o0 := bc0_ a4; have o1 := bc1_ a4; have o2 := bf_ a4 0; have o3 := bf_ a4 1
                   have c2 : 0 ≤ ((a5) : Int) := od_
                   have c3 : (a5) < (l0_0.length : Int) := od_
                   obtain ⟨d5, g6, a7⟩ := Kd.at_int a9.out (a5) c2 c3; obtain rfl : c0 = d5 := (by injection g6)
                   replace a7 := (HB.out.cell (World.block_lt_of_cell? w _ a7)).trans a7
                   replace c2 := eq_true c2; replace c3 := eq_true c3
                   have d6 : 0 ≤ (a3 : Int) := od_
                   have d7 : a3 < (l0_0.length : Int) := od_
                   obtain ⟨g7, j1, b1⟩ := Kd.at_int a9.out a3 d6 d7; obtain rfl : c0 = g7 := (by injection j1)
                   replace b1 := (HB.out.cell (World.block_lt_of_cell? w _ b1)).trans b1
                   replace d6 := eq_true d6; replace d7 := eq_true d7
                   have d8 : 0 ≤ ((a5) : Int) := od_
                   have d9 : (a5) < (l0_0.length : Int) := od_
                   obtain ⟨g8, j2, b2⟩ := Kd.at_int a9.out (a5) d8 d9; obtain rfl : c0 = g8 := (by injection j2)
                   replace b2 := (HB.out.cell (World.block_lt_of_cell? w _ b2)).trans b2
                   replace d8 := eq_true d8; replace d9 := eq_true d9
                   have g0 : 0 ≤ (a3 : Int) := od_
                   have g1 : a3 < (l0_1.length : Int) := od_
                   obtain ⟨g9, j3, b3⟩ := Kd.at_int b9.out a3 g0 g1; cases j3
                   replace b3 := (HB.out.cell (World.block_lt_of_cell? w _ b3)).trans b3
                   replace g0 := eq_true g0; replace g1 := eq_true g1
                   have g2 : 0 ≤ ((a5) : Int) := od_
                   have g3 : (a5) < (l0_1.length : Int) := od_
                   obtain ⟨h0, j4, b4⟩ := Kd.at_int b9.out (a5) g2 g3; obtain rfl : g9 = h0 := (by injection j4)
                   replace b4 := (HB.out.cell (World.block_lt_of_cell? w _ b4)).trans b4
                   replace g2 := eq_true g2; replace g3 := eq_true g3
                   go_wp2_with (first | (go_at_call 79; (with_reducible refine (impl_between.calls (rd l0_0 a3) (rd l0_0 (a5)) (rd l0_1 a3) (rd l0_1 (a5)) b0 c4 c5 _ j7.out).mono ?_); rintro e w' ⟨rfl, ⟨nd, rfl⟩⟩; (try first | exact ⟨rfl, _, World.drewN_drewN _ _ _⟩ | exact ⟨rfl, _, Eq.trans (World.drewN_drewN _ _ _) (congrArg (World.drewN _) (Nat.add_assoc _ _ _))⟩)))
                   repeat (go_quiet (first | (go_at_call 79; (with_reducible refine (impl_between.calls (rd l0_0 a3) (rd l0_0 (a5)) (rd l0_1 a3) (rd l0_1 (a5)) b0 c4 c5 _ j7.out).mono ?_); rintro e w' ⟨rfl, ⟨nd, rfl⟩⟩; (try first | exact ⟨rfl, _, World.drewN_drewN _ _ _⟩ | exact ⟨rfl, _, Eq.trans (World.drewN_drewN _ _ _) (congrArg (World.drewN _) (Nat.add_assoc _ _ _))⟩))); try go_wp2_with (first | (go_at_call 79; (with_reducible refine (impl_between.calls (rd l0_0 a3) (rd l0_0 (a5)) (rd l0_1 a3) (rd l0_1 (a5)) b0 c4 c5 _ j7.out).mono ?_); rintro e w' ⟨rfl, ⟨nd, rfl⟩⟩; (try first | exact ⟨rfl, _, World.drewN_drewN _ _ _⟩ | exact ⟨rfl, _, Eq.trans (World.drewN_drewN _ _ _) (congrArg (World.drewN _) (Nat.add_assoc _ _ _))⟩))))
                   go_roundg k3
                   case measure => have := l9.out; have := m4.out; have := m9.out; omega
                   case rel => exact ⟨(wrap64 (b0 + 1)), rf_, H', ⟨by have := l9.out; have := m4.out; have := m9.out; omega⟩, bw_ a4, ⟨hw_ HB⟩⟩
                 ·rw [if_neg n5] at H
                  exact absurd H (by simp)
                ·rw [if_neg n4] at H
                 exact absurd H (by simp)
               ·rw [if_neg n3] at H
                exact absurd H (by simp)
              ·rw [if_neg n2] at H
               exact absurd H (by simp)
             ·rw [if_neg j6] at H; have l6 : decide (b0 ≤ (rd l0_0 (a5))) = false := decide_eq_false j6; clear j6
              have H' := mk_ H
              clear H; have o4 := bc0_ a4; have o5 := bc1_ a4; have o6 := bf_ a4 0; have o7 := bf_ a4 1
              have c2 : 0 ≤ ((a5) : Int) := od_
              have c3 : (a5) < (l0_0.length : Int) := od_
              obtain ⟨d5, g6, a7⟩ := Kd.at_int a9.out (a5) c2 c3; obtain rfl : c0 = d5 := (by injection g6)
              replace a7 := (HB.out.cell (World.block_lt_of_cell? w _ a7)).trans a7
              replace c2 := eq_true c2; replace c3 := eq_true c3; go_wp2
              repeat (go_quiet (fail); try go_wp2)
              go_roundg k3
              case measure => have := l9.out; have := m4.out; have := m9.out; omega
              case rel => exact ⟨(a5), (by first | rfl | (simp; done) | (simp only [← d4] <;> (first | rfl | simp)) | (simp [*]; done)), H', ⟨by have := l9.out; have := m4.out; have := m9.out; omega⟩, bw_ a4, ⟨hw_ HB⟩⟩
            ·rw [if_neg n1] at H
             exact absurd H (by simp)
           ·rw [if_neg n0] at H
            exact absurd H (by simp)
        ·rw [if_neg l5] at H
         exact absurd H (by simp)
       ·rw [if_neg l3] at H
        exact absurd H (by simp)
      ·rw [if_neg h7] at H; have h6 : decide (a3 < (wrap64 ((l0_0.length : Int) - 1))) = false := decide_eq_false h7; clear h7
       simp only [Option.some.injEq, Prod.mk.injEq] at H
       obtain ⟨rfl, rfl⟩ := H; go_wp2
       repeat (go_quiet (fail); try go_wp2)
       go_ret2
       exact ⟨by first | rfl | (simp [errW_none, errW_some] <;> rfl) | (simp only [← d3]; first | rfl | (simp [errW_none, errW_some] <;> rfl)) | (simp [*, errW_none, errW_some] <;> rfl), hw_ HB⟩

end Go.Proofs.Ytnphbpkpjinddaa.QFnTables
-- squeezed
