/- Lean functions that tell what the Go functions used by one law answer, and for each a proof that the Go code comes to just these answers; no condition. Printed by this session's own program over the kit's printer. -/
import Derived.Test.YtnphbpkpjinddaaWSq
import Derived.Test.YtnphbpkpjinddaaQFnCyclesx0
import Derived.Test.YtnphbpkpjinddaaQFnCyclesx1
import Derived.Test.YtnphbpkpjinddaaQFnCyclesx2
import Derived.Test.YtnphbpkpjinddaaQFnCyclesx6
namespace Go.Proofs.Ytnphbpkpjinddaa.QFnCycles
open Go.RowKit Go.Proofs.YtnphbpkpjinddaaW.PrintWords Go.Proofs.YtnphbpkpjinddaaW.PrintLast Go.Proofs.YtnphbpkpjinddaaW.PrintMore
attribute [local go_sem] max2_int min2_int max_two min_two max_three min_three max_four min_four   -- for this text's walks alone
attribute [local go_sem high] go_eql go_neq go_lss go_leq go_gtr go_geq go_store   -- for this text's walks alone
set_option linter.unusedVariables false
set_option linter.unusedSimpArgs false

/-! ### laws_FnCycles: function 10 -/
mutual
def laws_FnCycles.j0 : Nat → List Int → Bool → Option (Bool)
 | 0, _, _ => none
 | k + 1, x0, N5 => if N5 = true then (some false) else ((impl_Crossings.f k (([0, 5, 0, 5] : List Int)) 3).bind fun m5 => (laws_FnCycles.l0 k x0 m5.1 (([(⟨5, 60⟩ : S83), (⟨9, 12⟩ : S83)] : List (S83))) (([] : List Int)) (([] : List Int)) 0))
def laws_FnCycles.l0 : Nat → List Int → Int → List (S83) → List Int → List Int → Int → Option (Bool)
 | 0, _, _, _, _, _, _ => none
 | k + 1, x0, n3, B7, s0, s1, B8 => if B8 < 10 then ((laws_at.f x0 B8).bind fun l9 => (if s0.length < 17592186044416 then ((laws_at.f x0 (wrap64 (B8 + 10))).bind fun g8 => (if s1.length < 17592186044416 then (laws_FnCycles.l0 k x0 n3 B7 (s0 ++ [Int.tmod l9 12]) (s1 ++ [Int.tmod g8 12]) (wrap64 (B8 + 1))) else (none))) else (none))) else ((impl_Used.f k B7 s0).bind fun c5 => ((impl_Used.f k B7 s1).bind fun c6 => ((some (([] : List Int) : List Int)).bind fun g9 => (if g9.length + s0.length < 17592186044416 then ((some (g9 ++ s0 : List Int)).bind fun d9 => (if d9.length + s1.length < 17592186044416 then ((impl_Used.f k B7 (d9 ++ s1)).bind fun a1 => (if c5.2.2 = true then (if c6.2.2 = true then (if a1.2.2 = true then (if c5.2.1 < 1 then (laws_FnCycles.j2 k n3 true c5.1 c5.2.1 c6.1 c6.2.1 a1.1 a1.2.1) else (if c6.2.1 < 1 then (laws_FnCycles.j2 k n3 true c5.1 c5.2.1 c6.1 c6.2.1 a1.1 a1.2.1) else (laws_FnCycles.j2 k n3 (decide (a1.2.1 < 1)) c5.1 c5.2.1 c6.1 c6.2.1 a1.1 a1.2.1))) else (laws_FnCycles.j2 k n3 true c5.1 c5.2.1 c6.1 c6.2.1 a1.1 a1.2.1)) else (laws_FnCycles.j2 k n3 true c5.1 c5.2.1 c6.1 c6.2.1 a1.1 a1.2.1)) else (laws_FnCycles.j2 k n3 true c5.1 c5.2.1 c6.1 c6.2.1 a1.1 a1.2.1))) else (none))) else (none)))))
def laws_FnCycles.j2 : Nat → Int → Bool → Int → Int → Int → Int → Int → Int → Option (Bool)
 | 0, _, _, _, _, _, _, _, _ => none
 | k + 1, n3, H7, n4, l5, n5, l6, n6, n7 => if H7 = true then (some false) else (if n3 = 2 then (some ((wrap64 ((wrap64 ((wrap64 (n4 * l6)) + (wrap64 (n5 * l5)))) * n7)) == (wrap64 ((wrap64 (n6 * l5)) * l6)))) else (some false))
end
def laws_FnCycles.f (k : Nat) (l0 : List Int) : Option (Bool) := (laws_big.f l0).bind fun m6 => (if m6 = true then (some true) else ((spec_DrawCrossings.f k l0).bind fun c1 => ((impl_Crossings.f k c1.1 c1.2).bind fun d0 => ((spec_Crossings.f k c1.1 c1.2).bind fun m7 => (if (d0.2 != m7.2) = true then (some false) else ((impl_Crossings.f k c1.1 2000000).bind fun h2 => (if d0.2 = true then (if h2.2 = true then (if h2.1 = 0 then (if d0.1 < 0 then (laws_FnCycles.j0 k l0 true) else (laws_FnCycles.j0 k l0 (decide (d0.1 > (c1.1.length : Int))))) else (laws_FnCycles.j0 k l0 true)) else (laws_FnCycles.j0 k l0 true)) else (if d0.1 < 0 then (laws_FnCycles.j0 k l0 true) else (laws_FnCycles.j0 k l0 (decide (d0.1 > (c1.1.length : Int))))))))))))
theorem laws_FnCycles.mono_l : ∀ k, (∀ y0 y1, LeO (laws_FnCycles.j0 k y0 y1) (laws_FnCycles.j0 (k + 1) y0 y1)) ∧ (∀ y0 y1 y2 y3 y4 y5, LeO (laws_FnCycles.l0 k y0 y1 y2 y3 y4 y5) (laws_FnCycles.l0 (k + 1) y0 y1 y2 y3 y4 y5)) ∧ (∀ y0 y1 y2 y3 y4 y5 y6 y7, LeO (laws_FnCycles.j2 k y0 y1 y2 y3 y4 y5 y6 y7) (laws_FnCycles.j2 (k + 1) y0 y1 y2 y3 y4 y5 y6 y7))
 | 0 => ⟨fun _ _ r h => by simp [laws_FnCycles.j0] at h, fun _ _ _ _ _ _ r h => by simp [laws_FnCycles.l0] at h, fun _ _ _ _ _ _ _ _ r h => by simp [laws_FnCycles.j2] at h⟩
 | k + 1 => by
  obtain ⟨n8, n9, o0⟩ := laws_FnCycles.mono_l k
  refine ⟨?_, ?_, ?_⟩
  ·intro y0 y1
   unfold laws_FnCycles.j0
   repeat' first
   | (with_reducible exact n8 _ _)
   | (with_reducible exact n9 _ _ _ _ _ _)
   | (with_reducible exact o0 _ _ _ _ _ _ _ _)
   | (with_reducible exact impl_Crossings.mono _ _ _)
   | (with_reducible exact impl_Used.mono _ _ _)
   | (with_reducible exact spec_Crossings.mono _ _ _)
   | (with_reducible exact spec_DrawCrossings.mono _ _)
   | (with_reducible exact LeO.refl _)
   | (with_reducible exact LeO.none _)
   | (with_reducible refine LeO.ite ?_ ?_)
   | (with_reducible refine LeO.bind ?_ (fun _ => ?_))
   | exact n8 _ _
   | exact n9 _ _ _ _ _ _
   | exact o0 _ _ _ _ _ _ _ _
   | exact impl_Crossings.mono _ _ _
   | exact impl_Used.mono _ _ _
   | exact spec_Crossings.mono _ _ _
   | exact spec_DrawCrossings.mono _ _
   | exact LeO.none _
   | refine LeO.ite ?_ ?_
   | refine LeO.bind ?_ (fun _ => ?_)
  ·intro y0 y1 y2 y3 y4 y5
   unfold laws_FnCycles.l0
   repeat' first
   | (with_reducible exact n8 _ _)
   | (with_reducible exact n9 _ _ _ _ _ _)
   | (with_reducible exact o0 _ _ _ _ _ _ _ _)
   | (with_reducible exact impl_Crossings.mono _ _ _)
   | (with_reducible exact impl_Used.mono _ _ _)
   | (with_reducible exact spec_Crossings.mono _ _ _)
   | (with_reducible exact spec_DrawCrossings.mono _ _)
   | (with_reducible exact LeO.refl _)
   | (with_reducible exact LeO.none _)
   | (with_reducible refine LeO.ite ?_ ?_)
   | (with_reducible refine LeO.bind ?_ (fun _ => ?_))
   | exact n8 _ _
   | exact n9 _ _ _ _ _ _
   | exact o0 _ _ _ _ _ _ _ _
   | exact impl_Crossings.mono _ _ _
   | exact impl_Used.mono _ _ _
   | exact spec_Crossings.mono _ _ _
   | exact spec_DrawCrossings.mono _ _
   | exact LeO.none _
   | refine LeO.ite ?_ ?_
   | refine LeO.bind ?_ (fun _ => ?_)
  ·intro y0 y1 y2 y3 y4 y5 y6 y7
   unfold laws_FnCycles.j2
   repeat' first
   | (with_reducible exact n8 _ _)
   | (with_reducible exact n9 _ _ _ _ _ _)
   | (with_reducible exact o0 _ _ _ _ _ _ _ _)
   | (with_reducible exact impl_Crossings.mono _ _ _)
   | (with_reducible exact impl_Used.mono _ _ _)
   | (with_reducible exact spec_Crossings.mono _ _ _)
   | (with_reducible exact spec_DrawCrossings.mono _ _)
   | (with_reducible exact LeO.refl _)
   | (with_reducible exact LeO.none _)
   | (with_reducible refine LeO.ite ?_ ?_)
   | (with_reducible refine LeO.bind ?_ (fun _ => ?_))
   | exact n8 _ _
   | exact n9 _ _ _ _ _ _
   | exact o0 _ _ _ _ _ _ _ _
   | exact impl_Crossings.mono _ _ _
   | exact impl_Used.mono _ _ _
   | exact spec_Crossings.mono _ _ _
   | exact spec_DrawCrossings.mono _ _
   | exact LeO.none _
   | refine LeO.ite ?_ ?_
   | refine LeO.bind ?_ (fun _ => ?_)
theorem laws_FnCycles.mono : ∀ a0 k, LeO (laws_FnCycles.f k a0) (laws_FnCycles.f (k + 1) a0) := by
 intro a0 k
 obtain ⟨n8, n9, o0⟩ := laws_FnCycles.mono_l k
 unfold laws_FnCycles.f
 repeat' first
   | (with_reducible exact n8 _ _)
   | (with_reducible exact n9 _ _ _ _ _ _)
   | (with_reducible exact o0 _ _ _ _ _ _ _ _)
   | (with_reducible exact impl_Crossings.mono _ _ _)
   | (with_reducible exact impl_Used.mono _ _ _)
   | (with_reducible exact spec_Crossings.mono _ _ _)
   | (with_reducible exact spec_DrawCrossings.mono _ _)
   | (with_reducible exact LeO.refl _)
   | (with_reducible exact LeO.none _)
   | (with_reducible refine LeO.ite ?_ ?_)
   | (with_reducible refine LeO.bind ?_ (fun _ => ?_))
   | exact n8 _ _
   | exact n9 _ _ _ _ _ _
   | exact o0 _ _ _ _ _ _ _ _
   | exact impl_Crossings.mono _ _ _
   | exact impl_Used.mono _ _ _
   | exact spec_Crossings.mono _ _ _
   | exact spec_DrawCrossings.mono _ _
   | exact LeO.none _
   | refine LeO.ite ?_ ?_
   | refine LeO.bind ?_ (fun _ => ?_)
set_option maxHeartbeats 8000000 in
set_option maxRecDepth 100000 in
theorem laws_FnCycles.calls (k : Nat) (A0 : Option Addr) (c0 : Nat) (l0 : List Int) (r : Bool) (w : World) (hr0 : Kd.C (Kd.int .u8) w A0 l0.length l0) (hc0 : l0.length ≤ c0) (h : laws_FnCycles.f k l0 = some r) :
  Calls Try.prog 10 #[.slice A0 l0.length c0] w fun e w' => e = .returned (.bool r) ∧ Below w.heap.size w w' := by
 have N6 := Try.underlying83
 have N7 := Try.underlying48
 have p1 := mk_ hr0; have p2 := mk_ hc0; clear hr0 hc0; have HB := mk_ (Below.refl w.heap.size w)
 have H : ((laws_big.f l0).bind fun m6 => (if m6 = true then (some true) else ((spec_DrawCrossings.f k l0).bind fun c1 => ((impl_Crossings.f k c1.1 c1.2).bind fun d0 => ((spec_Crossings.f k c1.1 c1.2).bind fun m7 => (if (d0.2 != m7.2) = true then (some false) else ((impl_Crossings.f k c1.1 2000000).bind fun h2 => (if d0.2 = true then (if h2.2 = true then (if h2.1 = 0 then (if d0.1 < 0 then (laws_FnCycles.j0 k l0 true) else (laws_FnCycles.j0 k l0 (decide (d0.1 > (c1.1.length : Int))))) else (laws_FnCycles.j0 k l0 true)) else (laws_FnCycles.j0 k l0 true)) else (if d0.1 < 0 then (laws_FnCycles.j0 k l0 true) else (laws_FnCycles.j0 k l0 (decide (d0.1 > (c1.1.length : Int))))))))))))) = some r := h
 clear h; replace H := Option.bind_eq_some_iff.mp H; obtain ⟨m6, B9, H⟩ := H; (try dsimp only at H); have A2 := mk_ B9; clear B9; by_cases c3 : m6 = true
 ·subst c3; rw [if_pos rfl] at H
  obtain rfl := Option.some.inj H
  go_enter Try.func10, Try.ntmps10
  go_wp2_with (first | ((with_reducible refine gc_ 30 rfl ?_); refine gl_ (some 24) rfl Try.func30 #[.slice A0 l0.length c0] ?_; (with_reducible refine (laws_big.calls _ _ l0 true _ ?a6 ?a7 A2.out).mono ?_); (case a6 => exact cw_ p1.out); (case a7 => exact p2.out); rintro e w' ⟨rfl, ⟨nd, rfl⟩⟩; refine ⟨_, rfl, ?_⟩))
  go_ret
  exact ⟨re_, hw_ HB⟩
 ·replace c3 := Bool.eq_false_iff.mpr c3; subst c3; rw [if_neg (show ¬ (false = true) by decide)] at H; replace H := Option.bind_eq_some_iff.mp H; obtain ⟨⟨d7, g2⟩, J2, H⟩ := H; (try dsimp only at H); have A4 := mk_ J2; clear J2; replace H := Option.bind_eq_some_iff.mp H; obtain ⟨⟨g3, g0⟩, J3, H⟩ := H; (try dsimp only at H); have A5 := mk_ J3; clear J3; replace H := Option.bind_eq_some_iff.mp H; obtain ⟨⟨s2, g4⟩, J4, H⟩ := H; (try dsimp only at H); have A6 := mk_ J4; clear J4; by_cases c7 : (g0 != g4) = true
  ·rw [if_pos c7] at H
   have H8 : (g0 != g4) = true := c7
   (try (have H9 : decide (g0 = g4) = false := by simpa using c7))
   (try (have I0 : (g0 == g4) = false := by simpa using c7))
   (try (have N8 : ¬ (g0 = g4) := by simpa using c7))
   clear c7; obtain rfl := Option.some.inj H
   go_enter Try.func10, Try.ntmps10
   go_wp2_with (first | ((with_reducible refine gc_ 30 rfl ?_); refine gl_ (some 24) rfl Try.func30 #[.slice A0 l0.length c0] ?_; (with_reducible refine (laws_big.calls _ _ l0 false _ ?a6 ?a7 A2.out).mono ?_); (case a6 => exact cw_ p1.out); (case a7 => exact p2.out); rintro e w' ⟨rfl, ⟨nd, rfl⟩⟩; refine ⟨_, rfl, ?_⟩) | ((with_reducible refine gc_ 47 rfl ?_); refine gl_ (some 27) rfl Try.func47 #[.slice A0 l0.length c0] ?_; (with_reducible refine (spec_DrawCrossings.calls k _ _ l0 d7 g2 _ ?a6 ?a7 A4.out).mono ?_); (case a6 => exact cw_ p1.out); (case a7 => exact p2.out); rintro e w8 ⟨v222, rfl, s3, hb⟩; refine ⟨_, rfl, ?_⟩; have d1 := mk_ (Kd.R_lower s3 (below_size (hw_ HB))); replace HB := hk_ HB hb; (try clear hb); (try clear C0); (try clear hk); (try clear hi); (try clear s3); obtain ⟨J5, J6, N9⟩ := Kd.R_slice d1.out; subst N9) | ((with_reducible refine gc_ 48 rfl ?_); refine gl_ (some 33) rfl Try.func48 #[.slice J5 d7.length J6, .int .i64 g2] ?_; (with_reducible refine (impl_Crossings.calls k _ _ d7 g2 g3 g0 _ ?a6 ?a7 A5.out).mono ?_); (case a6 => exact cw_ (rr_ d1)); (case a7 => exact (Kd.R_reads' d1.out).2.1); rintro e w' ⟨rfl, ⟨nd, rfl⟩⟩; refine ⟨_, rfl, ?_⟩) | ((with_reducible refine gc_ 49 rfl ?_); refine gl_ (some 39) rfl Try.func49 #[.slice J5 d7.length J6, .int .i64 g2] ?_; (with_reducible refine (spec_Crossings.calls k _ _ d7 g2 s2 g4 _ ?a6 ?a7 A6.out).mono ?_); (case a6 => exact cw_ (rr_ d1)); (case a7 => exact (Kd.R_reads' d1.out).2.1); rintro e w' ⟨rfl, ⟨nd, rfl⟩⟩; refine ⟨_, rfl, ?_⟩))
   go_ret
   exact ⟨re_, hw_ HB⟩
  ·rw [if_neg c7] at H
   have H8 : (g0 != g4) = false := by simpa using c7
   (try (have H9 : decide (g0 = g4) = true := by simpa using c7))
   (try (have I0 : (g0 == g4) = true := by simpa using c7))
   clear c7; replace H := Option.bind_eq_some_iff.mp H; obtain ⟨⟨m0, s4⟩, s5, H⟩ := H; (try dsimp only at H); have O0 := mk_ s5; clear s5; have p3 := mk_ H; clear H
   go_enter Try.func10, Try.ntmps10
   go_upto_region 9 with (first | ((with_reducible refine gc_ 30 rfl ?_); refine gl_ (some 24) rfl Try.func30 #[.slice A0 l0.length c0] ?_; (with_reducible refine (laws_big.calls _ _ l0 false _ ?a6 ?a7 A2.out).mono ?_); (case a6 => exact cw_ p1.out); (case a7 => exact p2.out); rintro e w' ⟨rfl, ⟨nd, rfl⟩⟩; refine ⟨_, rfl, ?_⟩) | ((with_reducible refine gc_ 47 rfl ?_); refine gl_ (some 27) rfl Try.func47 #[.slice A0 l0.length c0] ?_; (with_reducible refine (spec_DrawCrossings.calls k _ _ l0 d7 g2 _ ?a6 ?a7 A4.out).mono ?_); (case a6 => exact cw_ p1.out); (case a7 => exact p2.out); rintro e O7 ⟨v222, rfl, s3, hb⟩; refine ⟨_, rfl, ?_⟩; have d1 := mk_ (Kd.R_lower s3 (below_size (hw_ HB))); replace HB := hk_ HB hb; (try clear hb); (try clear C0); (try clear hk); (try clear hi); (try clear s3); obtain ⟨p4, p5, I1⟩ := Kd.R_slice d1.out; subst I1) | ((with_reducible refine gc_ 48 rfl ?_); refine gl_ (some 33) rfl Try.func48 #[.slice p4 d7.length p5, .int .i64 g2] ?_; (with_reducible refine (impl_Crossings.calls k _ _ d7 g2 g3 g0 _ ?a6 ?a7 A5.out).mono ?_); (case a6 => exact cw_ (rr_ d1)); (case a7 => exact (Kd.R_reads' d1.out).2.1); rintro e w' ⟨rfl, ⟨nd, rfl⟩⟩; refine ⟨_, rfl, ?_⟩) | ((with_reducible refine gc_ 49 rfl ?_); refine gl_ (some 39) rfl Try.func49 #[.slice p4 d7.length p5, .int .i64 g2] ?_; (with_reducible refine (spec_Crossings.calls k _ _ d7 g2 s2 g4 _ ?a6 ?a7 A6.out).mono ?_); (case a6 => exact cw_ (rr_ d1)); (case a7 => exact (Kd.R_reads' d1.out).2.1); rintro e w' ⟨rfl, ⟨nd, rfl⟩⟩; refine ⟨_, rfl, ?_⟩) | ((with_reducible refine gc_ 48 rfl ?_); refine gl_ (some 47) rfl Try.func48 #[.slice p4 d7.length p5, .int .i64 2000000] ?_; (with_reducible refine (impl_Crossings.calls k _ _ d7 2000000 m0 s4 _ ?a6 ?a7 O0.out).mono ?_); (case a6 => exact cw_ (rr_ d1)); (case a7 => exact (Kd.R_reads' d1.out).2.1); rintro e w' ⟨rfl, ⟨nd, rfl⟩⟩; refine ⟨_, rfl, ?_⟩))
   (try simp only [Act.put, List.setIfInBounds_toArray, List.set_cons_zero, List.set_cons_succ])
   go_cut [68] (fun v68 wc => ∃ (kq : Nat) (g6 : Bool), v68 = .bool g6 ∧ Aside0 (laws_FnCycles.j0 kq l0 g6 = some r) ∧ Aside0 (kq ≤ k) ∧ Aside0 (Below w.heap.size w wc))
   case first =>
    have H := p3.out; clear p3; by_cases C1 : g0 = true
    ·subst C1; rw [if_pos rfl] at H
     by_cases C2 : s4 = true
     ·subst C2; rw [if_pos rfl] at H
      by_cases p6 : m0 = 0
      ·rw [if_pos p6] at H; have h3 : (m0 == 0) = true := beq_iff_eq.mpr p6; have s6 : (m0 != 0) = false := bne_eq_false_iff_eq.mpr p6; clear p6
       (first | rw [h3] | (simp only [i64_w, i32_w]; rw [h3]) | skip)
       by_cases q5 : g3 < 0
       ·rw [if_pos q5] at H; have s7 : decide (g3 < 0) = true := decide_eq_true q5; clear q5
        have H' := mk_ H
        clear H; go_wp2; go_meet
        case rel => exact ⟨_, (true), rf_, H', ⟨by first | omega | exact Nat.le_refl _⟩, ⟨hw_ HB⟩⟩
       ·rw [if_neg q5] at H; have s7 : decide (g3 < 0) = false := decide_eq_false q5; clear q5
        have H' := mk_ H
        clear H; go_wp2; go_meet
        case rel => exact ⟨_, (decide (g3 > (d7.length : Int))), rf_, H', ⟨by first | omega | exact Nat.le_refl _⟩, ⟨hw_ HB⟩⟩
      ·rw [if_neg p6] at H; have h3 : (m0 == 0) = false := beq_eq_false_iff_ne.mpr p6; have s6 : (m0 != 0) = true := bne_iff_ne.mpr p6
       (first | rw [h3] | (simp only [i64_w, i32_w]; rw [h3]) | skip)
       have H' := mk_ H
       clear H; go_wp2; go_meet
       case rel => exact ⟨_, (true), rf_, H', ⟨by first | omega | exact Nat.le_refl _⟩, ⟨hw_ HB⟩⟩
     ·replace C2 := Bool.eq_false_iff.mpr C2; subst C2; rw [if_neg (show ¬ (false = true) by decide)] at H
      have H' := mk_ H
      clear H; go_wp2; go_meet
      case rel => exact ⟨_, (true), rf_, H', ⟨by first | omega | exact Nat.le_refl _⟩, ⟨hw_ HB⟩⟩
    ·replace C1 := Bool.eq_false_iff.mpr C1; subst C1; rw [if_neg (show ¬ (false = true) by decide)] at H; by_cases q6 : g3 < 0
     ·rw [if_pos q6] at H; have s8 : decide (g3 < 0) = true := decide_eq_true q6; clear q6
      have H' := mk_ H
      clear H; go_wp2; go_meet
      case rel => exact ⟨_, (true), rf_, H', ⟨by first | omega | exact Nat.le_refl _⟩, ⟨hw_ HB⟩⟩
     ·rw [if_neg q6] at H; have s8 : decide (g3 < 0) = false := decide_eq_false q6; clear q6
      have H' := mk_ H
      clear H; go_wp2; go_meet
      case rel => exact ⟨_, (decide (g3 > (d7.length : Int))), rf_, H', ⟨by first | omega | exact Nat.le_refl _⟩, ⟨hw_ HB⟩⟩
   case rest =>
    clear p3; (try clear c3); (try clear c7)
    obtain ⟨kq, g6, rfl, HA, h4, HB⟩ := hcut
    cases kq with
    | zero => exact absurd HA.out (by simp [laws_FnCycles.j0])
    | succ kj10 =>
     have H := HA.out; clear HA
     simp only [laws_FnCycles.j0] at H
     by_cases q7 : g6 = true
     ·subst q7; rw [if_pos rfl] at H
      obtain rfl := Option.some.inj H; go_wp2
      go_ret
      exact ⟨re_, hw_ HB⟩
     ·replace q7 := Bool.eq_false_iff.mpr q7; subst q7; rw [if_neg (show ¬ (false = true) by decide)] at H
      obtain ⟨p7, h5⟩ : ∃ y_ : List Int, y_ = (([0, 5, 0, 5] : List Int)) := ⟨_, rfl⟩
      replace H : ((impl_Crossings.f kj10 p7 3).bind fun m5 => (laws_FnCycles.l0 kj10 l0 m5.1 (([(⟨5, 60⟩ : S83), (⟨9, 12⟩ : S83)] : List (S83))) (([] : List Int)) (([] : List Int)) 0)) = some r := by first | (rw [h5]; with_reducible exact H) | (have H2_ := (Option.bind_some _ _).symm.trans H; rw [h5]; with_reducible exact H2_) | (have H2_ := (Option.bind_some _ _).symm.trans H; with_reducible exact H2_) | with_reducible exact H | (rw [h5]; exact H) | exact H
      have o3 := mk_ h5; clear h5; replace H := Option.bind_eq_some_iff.mp H; obtain ⟨⟨b4, I2⟩, s9, H⟩ := H; (try dsimp only at H); have B9 := mk_ s9; clear s9
      obtain ⟨d4, h6⟩ : ∃ y_ : List (S83), y_ = (([(⟨5, 60⟩ : S83), (⟨9, 12⟩ : S83)] : List (S83))) := ⟨_, rfl⟩
      replace H : (laws_FnCycles.l0 kj10 l0 b4 d4 (([] : List Int)) (([] : List Int)) 0) = some r := by first | (rw [h6]; with_reducible exact H) | (have H2_ := (Option.bind_some _ _).symm.trans H; rw [h6]; with_reducible exact H2_) | (have H2_ := (Option.bind_some _ _).symm.trans H; with_reducible exact H2_) | with_reducible exact H | (rw [h6]; exact H) | exact H
      have o4 := mk_ h6; clear h6
      obtain ⟨p8, h7⟩ : ∃ y_ : List Int, y_ = (([] : List Int)) := ⟨_, rfl⟩
      replace H : (laws_FnCycles.l0 kj10 l0 b4 d4 p8 (([] : List Int)) 0) = some r := by first | (rw [h7]; with_reducible exact H) | (have H2_ := (Option.bind_some _ _).symm.trans H; rw [h7]; with_reducible exact H2_) | (have H2_ := (Option.bind_some _ _).symm.trans H; with_reducible exact H2_) | with_reducible exact H | (rw [h7]; exact H) | exact H
      have o5 := mk_ h7; clear h7
      obtain ⟨t0, h8⟩ : ∃ y_ : List Int, y_ = (([] : List Int)) := ⟨_, rfl⟩
      replace H : (laws_FnCycles.l0 kj10 l0 b4 d4 p8 t0 0) = some r := by first | (rw [h8]; with_reducible exact H) | (have H2_ := (Option.bind_some _ _).symm.trans H; rw [h8]; with_reducible exact H2_) | (have H2_ := (Option.bind_some _ _).symm.trans H; with_reducible exact H2_) | with_reducible exact H | (rw [h8]; exact H) | exact H
      have o6 := mk_ h8; clear h8
      have H' := mk_ H
      clear H
      go_wp2_with (first | ((with_reducible refine gd_ 70 rfl ?_); (try (refine gate_guard (by rfl) ?_; dsimp only)); refine Kd.R_lit (Kd.int .i64) _ 3 ?hg (N := 70) ?hd (xs := ([0, 5, 0, 5] : List Int)) (inner := [.int .i64 0, .int .i64 5, .int .i64 0, .int .i64 5]) (ok := fun _ => True) (okp := fun _ => True) ?hr ?hp (fun _ hk => hk) trivial (Below.refl _ _) (Nat.le_refl _) (by simp) ?_; (case hd => rfl); (case hg => rfl); (case hr => exact hr_); (case hp => exact (Reps.one (show Kd.M (Kd.int .i64) _ _ _ 0 [.int .i64 0] from rfl) (Reps.one (show Kd.M (Kd.int .i64) _ _ _ 5 [.int .i64 5] from rfl) (Reps.one (show Kd.M (Kd.int .i64) _ _ _ 0 [.int .i64 0] from rfl) (Reps.one (show Kd.M (Kd.int .i64) _ _ _ 5 [.int .i64 5] from rfl) (Reps.none _ _)))))); intro v231 O8 m8 hb hg_ hnew_; clear hg_ hnew_; (first | rw [← o3.out] at m8 | (simp only [Int.reduceToNat] at m8; rw [← o3.out] at m8)); have d5 := mk_ (Kd.R_lower m8 (below_size (by exact HB.out))); replace HB := bp_ HB hb; clear hb m8; obtain ⟨I3, I4, I5⟩ := Kd.R_slice d5.out; subst I5) | ((with_reducible refine gc_ 48 rfl ?_); refine gl_ (some 71) rfl Try.func48 #[.slice I3 p7.length I4, .int .i64 3] ?_; (with_reducible refine (impl_Crossings.calls kj10 _ _ p7 3 b4 I2 _ ?a6 ?a7 B9.out).mono ?_); (case a6 => exact cw_ (rr_ d5)); (case a7 => exact (Kd.R_reads' d5.out).2.1); rintro e w' ⟨rfl, ⟨nd, rfl⟩⟩; refine ⟨_, rfl, ?_⟩) | ((with_reducible refine gd_ 76 rfl ?_); (try (refine gate_guard (by rfl) ?_; dsimp only)); refine Kd.R_lit k83 _ 83 ?hg (N := 76) ?hd (xs := ([(⟨5, 60⟩ : S83), (⟨9, 12⟩ : S83)] : List (S83))) (inner := [.int .i64 5, .int .i64 60, .int .i64 9, .int .i64 12]) (ok := fun _ => True) (okp := fun _ => True) ?hr ?hp (fun _ hk => hk) trivial (Below.refl _ _) (Nat.le_refl _) (by simp) ?_; (case hd => rfl); (case hg => rfl); (case hr => exact hr_); (case hp => exact (Reps.c2 (show Kd.M k83 _ _ _ (⟨5, 60⟩ : S83) [.int .i64 5, .int .i64 60] from (k83_mkM _ _ _ (⟨5, 60⟩ : S83) )) (Reps.c2 (show Kd.M k83 _ _ _ (⟨9, 12⟩ : S83) [.int .i64 9, .int .i64 12] from (k83_mkM _ _ _ (⟨9, 12⟩ : S83) )) (Reps.none _ _)))); intro v236 O9 m9 hb hg_ hnew_; clear hg_ hnew_; (first | rw [← o4.out] at m9 | (simp only [Int.reduceToNat] at m9; rw [← o4.out] at m9)); replace d5 := rk_ d5 hb; have h9 := mk_ (Kd.R_lower m9 (below_size (hw_ HB))); replace HB := hk_ HB hb; clear hb m9) | ((with_reducible refine gd_ 77 rfl ?_); (try (refine gate_guard (by rfl) ?_; dsimp only)); refine Kd.R_lit (Kd.int .i64) _ 3 ?hg (N := 77) ?hd (xs := ([] : List Int)) (inner := []) (ok := fun _ => True) (okp := fun _ => True) ?hr ?hp (fun _ hk => hk) trivial (Below.refl _ _) (Nat.le_refl _) (by simp) ?_; (case hd => rfl); (case hg => rfl); (case hr => exact hr_); (case hp => exact (Reps.none _ _)); intro v239 P0 m1 hb hg_ hnew_; clear hg_ hnew_; (first | rw [← o5.out] at m1 | (simp only [Int.reduceToNat] at m1; rw [← o5.out] at m1)); replace h9 := rb_ h9 hb; have l7 := mk_ (Kd.R_lower (Kd.R_new' m1 (Kd.R_lt (by exact d5.out))) (below_size (by exact HB.out))); replace d5 := mk_ (Kd.R_elder' (by exact d5.out) (Kd.R_base m1) hb); replace HB := bp_ HB hb; clear hb m1) | ((with_reducible refine gd_ 78 rfl ?_); (try (refine gate_guard (by rfl) ?_; dsimp only)); refine Kd.R_lit (Kd.int .i64) _ 3 ?hg (N := 78) ?hd (xs := ([] : List Int)) (inner := []) (ok := fun _ => True) (okp := fun _ => True) ?hr ?hp (fun _ hk => hk) trivial (Below.refl _ _) (Nat.le_refl _) (by simp) ?_; (case hd => rfl); (case hg => rfl); (case hr => exact hr_); (case hp => exact (Reps.none _ _)); intro v242 P1 l3 hb hg_ hnew_; clear hg_ hnew_; (first | rw [← o6.out] at l3 | (simp only [Int.reduceToNat] at l3; rw [← o6.out] at l3)); replace h9 := rb_ h9 hb; have t1 := mk_ (Kd.R_lower (Kd.R_new' (Kd.R_new' l3 (Kd.R_lt (by exact d5.out))) (Kd.R_lt (by exact l7.out))) (below_size (by exact HB.out))); replace d5 := mk_ (Kd.R_elder' (by exact d5.out) (Kd.R_base l3) hb); replace l7 := mk_ (Kd.R_elder' (by exact l7.out) (Kd.R_base l3) hb); replace HB := bp_ HB hb; clear hb l3))
      go_loopg [14, 15, 16] kj10 (fun kq v14 v15 v16 w' => ∃ (b9 : List Int) (b3 : List Int) (c8 : Int), v16 = .int .i64 c8 ∧ Aside0 (laws_FnCycles.l0 kq l0 b4 d4 b9 b3 c8 = some r) ∧ Aside0 (kq ≤ kj10) ∧ Aside0 (Kd.R k83 83 w' w.heap.size (fun _ => True) v236 d4) ∧ Aside0 (Kd.R (Kd.int .i64) 3 w' w.heap.size (fun k_ => some k_ ≠ (v15 : Value).ownBlock) v14 b9) ∧ Aside0 (Kd.R (Kd.int .i64) 3 w' w.heap.size (fun k_ => some k_ ≠ (v14 : Value).ownBlock) v15 b3) ∧ Aside0 (Below w.heap.size w w'))
      case atStart => exact ⟨(p8), (t0), (0), rf_, H', ⟨Nat.le_refl _⟩, kw_ h9, km_ l7 (fun _ hk => hk.2), km_ t1 (fun _ hk => hk.2), ⟨hw_ HB⟩⟩
      case round =>
       clear H'; (try clear c3); (try clear c7); (try clear q7)
       obtain ⟨b9, b3, c8, rfl, HA, o7, a9, b0, a8, HB⟩ := hrel
       cases gk with
       | zero => exact absurd HA.out (by simp [laws_FnCycles.l0])
       | succ k2 =>
        have H := HA.out; clear HA
        simp only [laws_FnCycles.l0] at H
        by_cases p9 : c8 < 10
        ·rw [if_pos p9] at H; have o8 : decide (c8 < 10) = true := decide_eq_true p9; clear p9; replace H := Option.bind_eq_some_iff.mp H; obtain ⟨l9, t2, H⟩ := H; (try dsimp only at H); have O1 := mk_ t2; clear t2; by_cases C3 : b9.length < 17592186044416
         ·rw [if_pos C3] at H; have LMc32 := mk_ C3; clear C3
          obtain ⟨q0, j1⟩ : ∃ y_ : List Int, y_ = (b9 ++ [Int.tmod l9 12]) := ⟨_, rfl⟩
          replace H : ((laws_at.f l0 (wrap64 (c8 + 10))).bind fun g8 => (if b3.length < 17592186044416 then (laws_FnCycles.l0 k2 l0 b4 d4 q0 (b3 ++ [Int.tmod g8 12]) (wrap64 (c8 + 1))) else (none))) = some r := by first | (rw [j1]; with_reducible exact H) | (have H2_ := (Option.bind_some _ _).symm.trans H; rw [j1]; with_reducible exact H2_) | (have H2_ := (Option.bind_some _ _).symm.trans H; with_reducible exact H2_) | with_reducible exact H | (rw [j1]; exact H) | exact H
          have t3 := mk_ j1; clear j1; replace H := Option.bind_eq_some_iff.mp H; obtain ⟨g8, t4, H⟩ := H; (try dsimp only at H); have O2 := mk_ t4; clear t4; by_cases C4 : b3.length < 17592186044416
          ·rw [if_pos C4] at H; have LMc34 := mk_ C4; clear C4
           obtain ⟨t5, j3⟩ : ∃ y_ : List Int, y_ = (b3 ++ [Int.tmod g8 12]) := ⟨_, rfl⟩
           replace H : (laws_FnCycles.l0 k2 l0 b4 d4 q0 t5 (wrap64 (c8 + 1))) = some r := by first | (rw [j3]; with_reducible exact H) | (have H2_ := (Option.bind_some _ _).symm.trans H; rw [j3]; with_reducible exact H2_) | (have H2_ := (Option.bind_some _ _).symm.trans H; with_reducible exact H2_) | with_reducible exact H | (rw [j3]; exact H) | exact H
           have t6 := mk_ j3; clear j3
           have H' := mk_ H
           clear H
           go_wp2_with (first | ((with_reducible refine gc_ 36 rfl ?_); refine gl_ (some 86) rfl Try.func36 #[.slice A0 l0.length c0, .int .i64 c8] ?_; (with_reducible refine (laws_at.calls _ _ l0 c8 l9 _ ?a6 ?a7 O1.out).mono ?_); (case a6 => exact cw_ (Kd.C_below p1.out HB.out)); (case a7 => exact p2.out); rintro e w' ⟨rfl, ⟨nd, rfl⟩⟩; refine ⟨_, rfl, ?_⟩) | ((with_reducible refine gate_builtin (b := .append) (xs := #[.tmp 83, .tmp 88]) rfl ?_); (try (refine gate_guard (by rfl) ?_; dsimp only)); at_builtin; refine Kd.R_append (Kd.int .i64) (w0 := w) w.heap.size rfl (.tmp 83) (.tmp 88) 22 3 (.int .i64 0) 8 rfl Try.underlying22 info3 rfl (by decide) (by omega) u14 b9 (Int.tmod l9 12) [.int .i64 (Int.tmod l9 12)] (fun k_ => some k_ ≠ (u15 : Value).ownBlock) (fun _ => False) rfl rfl ?aP (fun _ hk => hk.elim) ?aF ?aO ?aB ?aS ?aL ?_; (case aP => exact rfl); (case aB => exact (hw_ HB)); (case aF => exact (fun k_ hk => Kd.fresh' (Kd.R_lt (kx_ a8)) k_ hk)); (case aO => exact (kx_ b0)); (case aS => exact (below_size (hw_ HB))); (case aL => have := LMc32.out; omega); intro v246 P2 ho hb hg hat; rw [← t3.out] at ho; replace a9 := mk_ (Kd.R_over' (kx_ a9) (Kd.R_typed (kx_ b0)) (by decide) hg); replace a8 := mk_ (Kd.R_after (ok := (fun _ => True)) (by (with_reducible repeat (first | apply Kd.R_alloc | apply Kd.R_drewN | apply Kd.R_drew)); exact Kd.R_mono a8.out (fun _ hk => ⟨trivial, hk⟩)) hg hat); replace HB := mk_ (hb); have l8 := mk_ (ho); clear b0; clear ho hb hg hat) | ((with_reducible refine gc_ 36 rfl ?_); refine gl_ (some 94) rfl Try.func36 #[.slice A0 l0.length c0, .int .i64 (wrap64 (c8 + 10))] ?_; (with_reducible refine (laws_at.calls _ _ l0 (wrap64 (c8 + 10)) g8 _ ?a6 ?a7 O2.out).mono ?_); (case a6 => exact cw_ (Kd.C_below p1.out HB.out)); (case a7 => exact p2.out); rintro e w' ⟨rfl, ⟨nd, rfl⟩⟩; refine ⟨_, rfl, ?_⟩) | ((with_reducible refine gate_builtin (b := .append) (xs := #[.tmp 90, .tmp 96]) rfl ?_); (try (refine gate_guard (by rfl) ?_; dsimp only)); at_builtin; refine Kd.R_append (Kd.int .i64) (w0 := w) w.heap.size rfl (.tmp 90) (.tmp 96) 22 3 (.int .i64 0) 8 rfl Try.underlying22 info3 rfl (by decide) (by omega) u15 b3 (Int.tmod g8 12) [.int .i64 (Int.tmod g8 12)] (fun k_ => some k_ ≠ (v246 : Value).ownBlock) (fun _ => False) rfl rfl ?aP (fun _ hk => hk.elim) ?aF ?aO ?aB ?aS ?aL ?_; (case aP => exact rfl); (case aB => exact (hw_ HB)); (case aF => exact (fun k_ hk => Kd.fresh' (Kd.R_lt (kx_ l8)) k_ hk)); (case aO => exact (by (with_reducible repeat (first | apply Kd.R_alloc | apply Kd.R_drewN | apply Kd.R_drew)); exact Kd.R_mono a8.out (fun _ hk => hk.2))); (case aS => exact (below_size (hw_ HB))); (case aL => have := LMc34.out; omega); intro v250 P3 ho hb hg hat; rw [← t6.out] at ho; replace a9 := mk_ (Kd.R_over' (kx_ a9) (Kd.R_typed (kx_ a8)) (by decide) hg); replace l8 := mk_ (Kd.R_after (ok := (fun _ => True)) (by (with_reducible repeat (first | apply Kd.R_alloc | apply Kd.R_drewN | apply Kd.R_drew)); exact Kd.R_mono l8.out (fun _ hk => ⟨trivial, hk⟩)) hg hat); replace HB := mk_ (hb); have t7 := mk_ (ho); clear a8; clear ho hb hg hat))
           go_roundg k2
           case measure => have := h4.out; have := o7.out; omega
           case rel => exact ⟨(q0), (t5), (wrap64 (c8 + 1)), rf_, H', ⟨by have := h4.out; have := o7.out; omega⟩, kw_ a9, km_ l8 (fun _ hk => hk.2), kw_ t7, ⟨hw_ HB⟩⟩
          ·rw [if_neg C4] at H
           exact absurd H (by simp)
         ·rw [if_neg C3] at H
          exact absurd H (by simp)
        ·rw [if_neg p9] at H; have o8 : decide (c8 < 10) = false := decide_eq_false p9; clear p9; replace H := Option.bind_eq_some_iff.mp H; obtain ⟨⟨b5, b1, n0⟩, t8, H⟩ := H; (try dsimp only at H); have O3 := mk_ t8; clear t8; replace H := Option.bind_eq_some_iff.mp H; obtain ⟨⟨b7, b2, n1⟩, t9, H⟩ := H; (try dsimp only at H); have O4 := mk_ t9; clear t9
         obtain ⟨g9, j4⟩ : ∃ y_ : List Int, y_ = (([] : List Int)) := ⟨_, rfl⟩
         replace H : (if g9.length + b9.length < 17592186044416 then ((some (g9 ++ b9 : List Int)).bind fun d9 => (if d9.length + b3.length < 17592186044416 then ((impl_Used.f k2 d4 (d9 ++ b3)).bind fun a1 => (if n0 = true then (if n1 = true then (if a1.2.2 = true then (if b1 < 1 then (laws_FnCycles.j2 k2 b4 true b5 b1 b7 b2 a1.1 a1.2.1) else (if b2 < 1 then (laws_FnCycles.j2 k2 b4 true b5 b1 b7 b2 a1.1 a1.2.1) else (laws_FnCycles.j2 k2 b4 (decide (a1.2.1 < 1)) b5 b1 b7 b2 a1.1 a1.2.1))) else (laws_FnCycles.j2 k2 b4 true b5 b1 b7 b2 a1.1 a1.2.1)) else (laws_FnCycles.j2 k2 b4 true b5 b1 b7 b2 a1.1 a1.2.1)) else (laws_FnCycles.j2 k2 b4 true b5 b1 b7 b2 a1.1 a1.2.1))) else (none))) else (none)) = some r := by first | (rw [j4]; with_reducible exact H) | (have H2_ := (Option.bind_some _ _).symm.trans H; rw [j4]; with_reducible exact H2_) | (have H2_ := (Option.bind_some _ _).symm.trans H; with_reducible exact H2_) | with_reducible exact H | (rw [j4]; exact H) | exact H
         have o9 := mk_ j4; clear j4; by_cases y8 : g9.length + b9.length < 17592186044416
         ·rw [if_pos y8] at H; have LMc39 := mk_ y8; clear y8
          obtain ⟨d9, j5⟩ : ∃ y_ : List Int, y_ = (g9 ++ b9) := ⟨_, rfl⟩
          replace H : (if d9.length + b3.length < 17592186044416 then ((impl_Used.f k2 d4 (d9 ++ b3)).bind fun a1 => (if n0 = true then (if n1 = true then (if a1.2.2 = true then (if b1 < 1 then (laws_FnCycles.j2 k2 b4 true b5 b1 b7 b2 a1.1 a1.2.1) else (if b2 < 1 then (laws_FnCycles.j2 k2 b4 true b5 b1 b7 b2 a1.1 a1.2.1) else (laws_FnCycles.j2 k2 b4 (decide (a1.2.1 < 1)) b5 b1 b7 b2 a1.1 a1.2.1))) else (laws_FnCycles.j2 k2 b4 true b5 b1 b7 b2 a1.1 a1.2.1)) else (laws_FnCycles.j2 k2 b4 true b5 b1 b7 b2 a1.1 a1.2.1)) else (laws_FnCycles.j2 k2 b4 true b5 b1 b7 b2 a1.1 a1.2.1))) else (none)) = some r := by first | (rw [j5]; with_reducible exact H) | (have H2_ := (Option.bind_some _ _).symm.trans H; rw [j5]; with_reducible exact H2_) | (have H2_ := (Option.bind_some _ _).symm.trans H; with_reducible exact H2_) | with_reducible exact H | (rw [j5]; exact H) | exact H
          have y9 := mk_ j5; clear j5; by_cases A1 : d9.length + b3.length < 17592186044416
          ·rw [if_pos A1] at H; have LMc40 := mk_ A1; clear A1
           obtain ⟨q1, j6⟩ : ∃ y_ : List Int, y_ = (d9 ++ b3) := ⟨_, rfl⟩
           replace H : ((impl_Used.f k2 d4 q1).bind fun a1 => (if n0 = true then (if n1 = true then (if a1.2.2 = true then (if b1 < 1 then (laws_FnCycles.j2 k2 b4 true b5 b1 b7 b2 a1.1 a1.2.1) else (if b2 < 1 then (laws_FnCycles.j2 k2 b4 true b5 b1 b7 b2 a1.1 a1.2.1) else (laws_FnCycles.j2 k2 b4 (decide (a1.2.1 < 1)) b5 b1 b7 b2 a1.1 a1.2.1))) else (laws_FnCycles.j2 k2 b4 true b5 b1 b7 b2 a1.1 a1.2.1)) else (laws_FnCycles.j2 k2 b4 true b5 b1 b7 b2 a1.1 a1.2.1)) else (laws_FnCycles.j2 k2 b4 true b5 b1 b7 b2 a1.1 a1.2.1))) = some r := by first | (rw [j6]; with_reducible exact H) | (have H2_ := (Option.bind_some _ _).symm.trans H; rw [j6]; with_reducible exact H2_) | (have H2_ := (Option.bind_some _ _).symm.trans H; with_reducible exact H2_) | with_reducible exact H | (rw [j6]; exact H) | exact H
           have A3 := mk_ j6; clear j6; replace H := Option.bind_eq_some_iff.mp H; obtain ⟨⟨g7, o1, A7⟩, A8, H⟩ := H; (try dsimp only at H); have O5 := mk_ A8; clear A8; have q2 := mk_ H; clear H; obtain ⟨q3, o2, I6⟩ := Kd.R_slice a9.out; subst I6; obtain ⟨m2, m3, I7⟩ := Kd.R_slice b0.out; subst I7
           go_upto_region 22 with (first | ((with_reducible refine gc_ 50 rfl ?_); refine gl_ (some 101) rfl Try.func50 #[.slice q3 d4.length o2, .slice m2 b9.length m3] ?_; (with_reducible refine (impl_Used.calls k2 _ _ d4 _ _ b9 b5 b1 n0 _ ?a6 ?a7 ?j7 ?j8 O3.out).mono ?_); (case a6 => exact cw_ (rr_ a9)); (case a7 => exact (Kd.R_reads' a9.out).2.1); (case j7 => exact cw_ (rr_ b0)); (case j8 => exact (Kd.R_reads' b0.out).2.1); rintro e P4 ⟨rfl, hb⟩; refine ⟨_, rfl, ?_⟩; replace a9 := rb_ a9 hb; replace b0 := rb_ b0 hb; replace a8 := rb_ a8 hb; replace HB := bp_ HB hb; (try clear hb); (try clear C0); (try clear hk); (try clear hi)) | ((with_reducible refine gd_ 17 rfl ?_); (try (refine gate_guard (by rfl) ?_; dsimp only)); refine box_event ?hg (N := 17) ?hd (cs := #[.int .i64 0, .int .i64 0]) (t := 48) ?hr ?_; (case hd => rfl); (case hg => rfl); (case hr => exact hr_); intro c4 hg P5 hbox hb; replace a9 := rb_ a9 hb; replace b0 := rb_ b0 hb; replace a8 := rb_ a8 hb; have a2 := mk_ (hbox); have A9 := gb_ hg HB; replace HB := bp_ HB hb; have B0 := A9; clear hb hbox hg; have C5 := bc0_ a2; have C6 := bc1_ a2; have C7 := bf_ a2 0; have C8 := bf_ a2 1; obtain ⟨n2, m4, I8⟩ := Kd.R_slice a8.out; subst I8) | ((with_reducible refine gc_ 50 rfl ?_); refine gl_ (some 107) rfl Try.func50 #[.slice q3 d4.length o2, .slice n2 b3.length m4] ?_; (with_reducible refine (impl_Used.calls k2 _ _ d4 _ _ b3 b7 b2 n1 _ ?a6 ?a7 ?j7 ?j8 O4.out).mono ?_); (case a6 => refine (Kd.R_reads' (e := 83) (base := w.heap.size) (ok := fun k_ => True) (n := d4.length) (c := o2) ?_).2.2; exact (by (with_reducible repeat (first | apply Kd.R_alloc | apply Kd.R_drewN | apply Kd.R_drew)); exact (Kd.R_mono (Kd.R_far (p := ⟨c4, 1, none⟩) (Kd.R_far (p := ⟨c4, 0, none⟩) (Kd.R_types a9.out a2.out (by decide)) (fun _ hk => hk.2) (.int .i64 b5)) (fun _ hk => hk.2) (.int .i64 b1)) (fun _ h_ => h_.1)))); (case a7 => exact (Kd.R_reads' a9.out).2.1); (case j7 => refine (Kd.R_reads' (e := 3) (base := w.heap.size) (ok := fun k_ => some k_ ≠ (.slice m2 b9.length m3 : Value).ownBlock) (n := b3.length) (c := m4) ?_).2.2; exact (by (with_reducible repeat (first | apply Kd.R_alloc | apply Kd.R_drewN | apply Kd.R_drew)); exact (Kd.R_mono (Kd.R_far (p := ⟨c4, 1, none⟩) (Kd.R_far (p := ⟨c4, 0, none⟩) (Kd.R_types a8.out a2.out (by decide)) (fun _ hk => hk.2) (.int .i64 b5)) (fun _ hk => hk.2) (.int .i64 b1)) (fun _ h_ => h_.1)))); (case j8 => exact (Kd.R_reads' a8.out).2.1); rintro e P6 ⟨rfl, hb⟩; refine ⟨_, rfl, ?_⟩; replace a9 := mk_ (Kd.R_below (by (with_reducible repeat (first | apply Kd.R_alloc | apply Kd.R_drewN | apply Kd.R_drew)); exact (Kd.R_mono (Kd.R_far (p := ⟨c4, 1, none⟩) (Kd.R_far (p := ⟨c4, 0, none⟩) (Kd.R_types a9.out a2.out (by decide)) (fun _ hk => hk.2) (.int .i64 b5)) (fun _ hk => hk.2) (.int .i64 b1)) (fun _ h_ => h_.1))) hb); replace b0 := mk_ (Kd.R_below (by (with_reducible repeat (first | apply Kd.R_alloc | apply Kd.R_drewN | apply Kd.R_drew)); exact (Kd.R_mono (Kd.R_far (p := ⟨c4, 1, none⟩) (Kd.R_far (p := ⟨c4, 0, none⟩) (Kd.R_types b0.out a2.out (by decide)) (fun _ hk => hk.2) (.int .i64 b5)) (fun _ hk => hk.2) (.int .i64 b1)) (fun _ h_ => h_.1))) hb); replace a8 := mk_ (Kd.R_below (by (with_reducible repeat (first | apply Kd.R_alloc | apply Kd.R_drewN | apply Kd.R_drew)); exact (Kd.R_mono (Kd.R_far (p := ⟨c4, 1, none⟩) (Kd.R_far (p := ⟨c4, 0, none⟩) (Kd.R_types a8.out a2.out (by decide)) (fun _ hk => hk.2) (.int .i64 b5)) (fun _ hk => hk.2) (.int .i64 b1)) (fun _ h_ => h_.1))) hb); replace a2 := mk_ (blk_below (g := c4) (o := .cells #[.int .i64 b5, .int .i64 b1] 48 (0, 0)) (by (with_reducible repeat (first | refine blk_drewN ?_ _ | refine blk_drew ?_ | refine blk_alloc ?_ _)); refine blk_put (cs := #[.int .i64 b5, .int .i64 0]) ?_ 1 _ rfl; (with_reducible repeat (first | refine blk_drewN ?_ _ | refine blk_drew ?_ | refine blk_alloc ?_ _)); refine blk_put (cs := #[.int .i64 0, .int .i64 0]) ?_ 0 _ rfl; (with_reducible repeat (first | refine blk_drewN ?_ _ | refine blk_drew ?_ | refine blk_alloc ?_ _)); exact a2.out) hb); replace HB := mk_ (below_step (by repeat (first | (with_reducible first | exact HB.out | apply below_alloc | apply pw_below_drewN | apply below_drew1 | refine below_set ?_ B0.out) | exact HB.out)) hb); (try clear hb); (try clear C0); (try clear hk); (try clear hi)) | ((with_reducible refine gd_ 19 rfl ?_); (try (refine gate_guard (by rfl) ?_; dsimp only)); refine box_event ?hg (N := 19) ?hd (cs := #[.int .i64 0, .int .i64 0]) (t := 48) ?hr ?_; (case hd => rfl); (case hg => rfl); (case hr => exact hr_); intro c9 hg P7 hbox hb; replace a9 := rb_ a9 hb; replace b0 := rb_ b0 hb; replace a8 := rb_ a8 hb; have a4 := mk_ (hbox); have B1 := gb_ hg HB; replace HB := bp_ HB hb; have p0 := B1; have b6 := nb_ hg a2; replace a2 := bl_ a2 hb; have d2 := ns_ b6; clear hb hbox hg; have J7 := d2.out; have J8 := b6.out; have C9 := bc0_ a4; have D0 := bc1_ a4; have D1 := bf_ a4 0; have D2 := bf_ a4 1) | ((with_reducible refine gd_ 112 rfl ?_); (try (refine gate_guard (by rfl) ?_; dsimp only)); refine Kd.R_lit (Kd.int .i64) _ 3 ?hg (N := 112) ?hd (xs := ([] : List Int)) (inner := []) (ok := fun _ => True) (okp := fun _ => True) ?hr ?hp (fun _ hk => hk) trivial (Below.refl _ _) (Nat.le_refl _) (by simp) ?_; (case hd => rfl); (case hg => rfl); (case hr => exact hr_); (case hp => exact (Reps.none _ _)); intro v261 P8 l4 hb hg_ hnew_; clear hg_ hnew_; (first | rw [← o9.out] at l4 | (simp only [Int.reduceToNat] at l4; rw [← o9.out] at l4)); replace a9 := mk_ (Kd.R_below (by (with_reducible repeat (first | apply Kd.R_alloc | apply Kd.R_drewN | apply Kd.R_drew)); exact (Kd.R_mono (Kd.R_far (p := ⟨c9, 1, none⟩) (Kd.R_far (p := ⟨c9, 0, none⟩) (Kd.R_types a9.out a4.out (by decide)) (fun _ hk => hk.2) (.int .i64 b7)) (fun _ hk => hk.2) (.int .i64 b2)) (fun _ h_ => h_.1))) hb); have j9 := mk_ (Kd.R_lower (Kd.R_new' (Kd.R_new' l4 (Kd.R_lt (by (with_reducible repeat (first | apply Kd.R_alloc | apply Kd.R_drewN | apply Kd.R_drew)); exact (Kd.R_mono (Kd.R_far (p := ⟨c9, 1, none⟩) (Kd.R_far (p := ⟨c9, 0, none⟩) (Kd.R_types b0.out a4.out (by decide)) (fun _ hk => hk.2) (.int .i64 b7)) (fun _ hk => hk.2) (.int .i64 b2)) (fun _ h_ => h_.1))))) (Kd.R_lt (by (with_reducible repeat (first | apply Kd.R_alloc | apply Kd.R_drewN | apply Kd.R_drew)); exact (Kd.R_mono (Kd.R_far (p := ⟨c9, 1, none⟩) (Kd.R_far (p := ⟨c9, 0, none⟩) (Kd.R_types a8.out a4.out (by decide)) (fun _ hk => hk.2) (.int .i64 b7)) (fun _ hk => hk.2) (.int .i64 b2)) (fun _ h_ => h_.1))))) (below_size (by repeat (first | (with_reducible first | exact HB.out | apply below_alloc | apply pw_below_drewN | apply below_drew1 | refine below_set ?_ p0.out) | exact HB.out)))); replace b0 := mk_ (Kd.R_elder' (by (with_reducible repeat (first | apply Kd.R_alloc | apply Kd.R_drewN | apply Kd.R_drew)); exact (Kd.R_mono (Kd.R_far (p := ⟨c9, 1, none⟩) (Kd.R_far (p := ⟨c9, 0, none⟩) (Kd.R_types b0.out a4.out (by decide)) (fun _ hk => hk.2) (.int .i64 b7)) (fun _ hk => hk.2) (.int .i64 b2)) (fun _ h_ => h_.1))) (Kd.R_base l4) hb); replace a8 := mk_ (Kd.R_elder' (by (with_reducible repeat (first | apply Kd.R_alloc | apply Kd.R_drewN | apply Kd.R_drew)); exact (Kd.R_mono (Kd.R_far (p := ⟨c9, 1, none⟩) (Kd.R_far (p := ⟨c9, 0, none⟩) (Kd.R_types a8.out a4.out (by decide)) (fun _ hk => hk.2) (.int .i64 b7)) (fun _ hk => hk.2) (.int .i64 b2)) (fun _ h_ => h_.1))) (Kd.R_base l4) hb); replace a2 := mk_ (blk_below (g := c4) (o := .cells #[.int .i64 b5, .int .i64 b1] 48 (0, 0)) (by (with_reducible repeat (first | refine blk_drewN ?_ _ | refine blk_drew ?_ | refine blk_alloc ?_ _)); refine blk_far ?_ b6.out _; (with_reducible repeat (first | refine blk_drewN ?_ _ | refine blk_drew ?_ | refine blk_alloc ?_ _)); refine blk_far ?_ b6.out _; (with_reducible repeat (first | refine blk_drewN ?_ _ | refine blk_drew ?_ | refine blk_alloc ?_ _)); exact a2.out) hb); replace a4 := mk_ (blk_below (g := c9) (o := .cells #[.int .i64 b7, .int .i64 b2] 48 (0, 0)) (by (with_reducible repeat (first | refine blk_drewN ?_ _ | refine blk_drew ?_ | refine blk_alloc ?_ _)); refine blk_put (cs := #[.int .i64 b7, .int .i64 0]) ?_ 1 _ rfl; (with_reducible repeat (first | refine blk_drewN ?_ _ | refine blk_drew ?_ | refine blk_alloc ?_ _)); refine blk_put (cs := #[.int .i64 0, .int .i64 0]) ?_ 0 _ rfl; (with_reducible repeat (first | refine blk_drewN ?_ _ | refine blk_drew ?_ | refine blk_alloc ?_ _)); exact a4.out) hb); replace HB := mk_ (below_step (by repeat (first | (with_reducible first | exact HB.out | apply below_alloc | apply pw_below_drewN | apply below_drew1 | refine below_set ?_ p0.out) | exact HB.out)) hb); clear hb l4) | ((with_reducible refine gate_builtin (b := .append) (xs := #[.tmp 112, .tmp 113]) rfl ?_); (try (refine gate_guard (by rfl) ?_; dsimp only)); at_builtin; refine Kd.R_append_rows (Kd.int .i64) (w0 := w) w.heap.size rfl (.tmp 112) (.tmp 113) 22 3 (.int .i64 0) 8 rfl Try.underlying22 info3 rfl (by decide) (by omega) v261 g9 b9 _ _ _ (fun k_ => some k_ ≠ (.slice m2 b9.length m3 : Value).ownBlock ∧ some k_ ≠ (.slice n2 b3.length m4 : Value).ownBlock) (fun _ => False) rfl rfl ?aO ?aR (fun _ _ h => h) (fun _ h => h.elim) ?aF ?aB ?aS ?aL ?_; (case aR => exact cw_ (rr_ b0)); (case aB => exact (by exact HB.out)); (case aF => exact (fun k_ hk => ⟨Kd.fresh' (Kd.R_lt (by exact b0.out)) k_ hk, Kd.fresh' (Kd.R_lt (by exact a8.out)) k_ hk⟩)); (case aO => exact (by exact Kd.R_mono j9.out (fun _ hk => ⟨hk.1.2, hk.2⟩))); (case aS => exact (below_size (by exact HB.out))); (case aL => have := LMc39.out; omega); intro v264 P9 ho hb hg hat; rw [← y9.out] at ho; replace a9 := mk_ (Kd.R_over' (by exact a9.out) (Kd.R_typed (by exact j9.out)) (by decide) hg); replace b0 := mk_ (Kd.R_after (ok := (fun k_ => some k_ ≠ (.slice n2 b3.length m4 : Value).ownBlock)) (by exact b0.out) hg hat); replace a8 := mk_ (Kd.R_after (ok := (fun k_ => some k_ ≠ (.slice m2 b9.length m3 : Value).ownBlock)) (by exact a8.out) hg hat); replace a2 := mk_ (blk_grown (g := c4) (o := .cells #[.int .i64 b5, .int .i64 b1] 48 (0, 0)) (by exact a2.out) hg (Kd.R_ne j9.out a2.out (by decide))); replace a4 := mk_ (blk_grown (g := c9) (o := .cells #[.int .i64 b7, .int .i64 b2] 48 (0, 0)) (by exact a4.out) hg (Kd.R_ne j9.out a4.out (by decide))); replace HB := mk_ (hb); have l1 := mk_ (ho); clear j9; clear ho hb hg hat) | ((with_reducible refine gate_builtin (b := .append) (xs := #[.tmp 114, .tmp 115]) rfl ?_); (try (refine gate_guard (by rfl) ?_; dsimp only)); at_builtin; refine Kd.R_append_rows (Kd.int .i64) (w0 := w) w.heap.size rfl (.tmp 114) (.tmp 115) 22 3 (.int .i64 0) 8 rfl Try.underlying22 info3 rfl (by decide) (by omega) v264 d9 b3 _ _ _ (fun k_ => some k_ ≠ (.slice m2 b9.length m3 : Value).ownBlock ∧ some k_ ≠ (.slice n2 b3.length m4 : Value).ownBlock) (fun _ => False) rfl rfl ?aO ?aR (fun _ _ h => h) (fun _ h => h.elim) ?aF ?aB ?aS ?aL ?_; (case aR => exact cw_ (rr_ a8)); (case aB => exact (by exact HB.out)); (case aF => exact (fun k_ hk => ⟨Kd.fresh' (Kd.R_lt (by exact b0.out)) k_ hk, Kd.fresh' (Kd.R_lt (by exact a8.out)) k_ hk⟩)); (case aO => exact (by exact l1.out)); (case aS => exact (below_size (by exact HB.out))); (case aL => have := LMc40.out; omega); intro v267 Q0 ho hb hg hat; rw [← A3.out] at ho; replace a9 := mk_ (Kd.R_over' (by exact a9.out) (Kd.R_typed (by exact l1.out)) (by decide) hg); replace b0 := mk_ (Kd.R_after (ok := (fun k_ => some k_ ≠ (.slice n2 b3.length m4 : Value).ownBlock)) (by exact b0.out) hg hat); replace a8 := mk_ (Kd.R_after (ok := (fun k_ => some k_ ≠ (.slice m2 b9.length m3 : Value).ownBlock)) (by exact a8.out) hg hat); replace a2 := mk_ (blk_grown (g := c4) (o := .cells #[.int .i64 b5, .int .i64 b1] 48 (0, 0)) (by exact a2.out) hg (Kd.R_ne l1.out a2.out (by decide))); replace a4 := mk_ (blk_grown (g := c9) (o := .cells #[.int .i64 b7, .int .i64 b2] 48 (0, 0)) (by exact a4.out) hg (Kd.R_ne l1.out a4.out (by decide))); replace HB := mk_ (hb); have g1 := mk_ (ho); clear l1; clear ho hb hg hat; obtain ⟨I9, J0, J1⟩ := Kd.R_slice g1.out; subst J1) | ((with_reducible refine gc_ 50 rfl ?_); refine gl_ (some 117) rfl Try.func50 #[.slice q3 d4.length o2, .slice I9 q1.length J0] ?_; (with_reducible refine (impl_Used.calls k2 _ _ d4 _ _ q1 g7 o1 A7 _ ?a6 ?a7 ?j7 ?j8 O5.out).mono ?_); (case a6 => exact cw_ (rr_ a9)); (case a7 => exact (Kd.R_reads' a9.out).2.1); (case j7 => exact cw_ (rr_ g1)); (case j8 => exact (Kd.R_reads' g1.out).2.1); rintro e Q1 ⟨rfl, hb⟩; refine ⟨_, rfl, ?_⟩; replace a9 := rb_ a9 hb; replace b0 := rb_ b0 hb; replace a8 := rb_ a8 hb; replace g1 := rb_ g1 hb; replace a2 := bl_ a2 hb; replace a4 := bl_ a4 hb; replace HB := bp_ HB hb; (try clear hb); (try clear C0); (try clear hk); (try clear hi)) | ((with_reducible refine gd_ 21 rfl ?_); (try (refine gate_guard (by rfl) ?_; dsimp only)); refine box_event ?hg (N := 21) ?hd (cs := #[.int .i64 0, .int .i64 0]) (t := 48) ?hr ?_; (case hd => rfl); (case hg => rfl); (case hr => exact hr_); intro B2 hg Q2 hbox hb; replace a9 := rb_ a9 hb; replace b0 := rb_ b0 hb; replace a8 := rb_ a8 hb; replace g1 := rb_ g1 hb; have b8 := mk_ (hbox); have B3 := gb_ hg HB; replace HB := bp_ HB hb; have g5 := B3; have a3 := nb_ hg a2; replace a2 := bl_ a2 hb; have d3 := ns_ a3; have a5 := nb_ hg a4; replace a4 := bl_ a4 hb; have d6 := ns_ a5; clear hb hbox hg; have J9 := d3.out; have L0 := a3.out; have L1 := d6.out; have L2 := a5.out; have D3 := bc0_ b8; have D4 := bc1_ b8; have D5 := bf_ b8 0; have D6 := bf_ b8 1))
           (try simp only [Act.put, List.setIfInBounds_toArray, List.set_cons_zero, List.set_cons_succ])
           go_cut [144] (fun v144 wc => ∃ (kq : Nat) (d8 : Bool), v144 = .bool d8 ∧ Aside0 (laws_FnCycles.j2 kq b4 d8 b5 b1 b7 b2 g7 o1 = some r) ∧ Aside0 (kq ≤ k2) ∧ Aside0 (wc.heap[c4]? = some (.cells #[.int .i64 b5, .int .i64 b1] 48 (0, 0))) ∧ Aside0 (wc.heap[c9]? = some (.cells #[.int .i64 b7, .int .i64 b2] 48 (0, 0))) ∧ Aside0 (wc.heap[B2]? = some (.cells #[.int .i64 g7, .int .i64 o1] 48 (0, 0))) ∧ Aside0 (Below w.heap.size w wc))
           case first =>
            have H := q2.out; clear q2; by_cases D7 : n0 = true
            ·subst D7; rw [if_pos rfl] at H
             by_cases D8 : n1 = true
             ·subst D8; rw [if_pos rfl] at H
              by_cases D9 : A7 = true
              ·subst D9; rw [if_pos rfl] at H
               by_cases q8 : b1 < 1
               ·rw [if_pos q8] at H; have l2 : decide (b1 < 1) = true := decide_eq_true q8; clear q8
                (first | rw [l2] | (simp only [i64_w, i32_w]; rw [l2]) | skip)
                have H' := mk_ H
                clear H; have L3 := b6.out; have L4 := d2.out; have L5 := a3.out; have L6 := d3.out; have E0 := bc0_ a2; have E1 := bc1_ a2; have E2 := bf_ a2 0; have E3 := bf_ a2 1; go_wp2; go_meet
                case rel => exact ⟨_, (true), rf_, H', ⟨by have := h4.out; have := o7.out; first | omega | exact Nat.le_refl _⟩, ⟨by (with_reducible repeat (first | refine blk_drewN ?_ _ | refine blk_drew ?_ | refine blk_alloc ?_ _)); refine blk_far ?_ a3.out _; (with_reducible repeat (first | refine blk_drewN ?_ _ | refine blk_drew ?_ | refine blk_alloc ?_ _)); refine blk_far ?_ a3.out _; (with_reducible repeat (first | refine blk_drewN ?_ _ | refine blk_drew ?_ | refine blk_alloc ?_ _)); exact a2.out⟩, ⟨by (with_reducible repeat (first | refine blk_drewN ?_ _ | refine blk_drew ?_ | refine blk_alloc ?_ _)); refine blk_far ?_ a5.out _; (with_reducible repeat (first | refine blk_drewN ?_ _ | refine blk_drew ?_ | refine blk_alloc ?_ _)); refine blk_far ?_ a5.out _; (with_reducible repeat (first | refine blk_drewN ?_ _ | refine blk_drew ?_ | refine blk_alloc ?_ _)); exact a4.out⟩, ⟨by (with_reducible repeat (first | refine blk_drewN ?_ _ | refine blk_drew ?_ | refine blk_alloc ?_ _)); refine blk_put (cs := #[.int .i64 g7, .int .i64 0]) ?_ 1 _ rfl; (with_reducible repeat (first | refine blk_drewN ?_ _ | refine blk_drew ?_ | refine blk_alloc ?_ _)); refine blk_put (cs := #[.int .i64 0, .int .i64 0]) ?_ 0 _ rfl; (with_reducible repeat (first | refine blk_drewN ?_ _ | refine blk_drew ?_ | refine blk_alloc ?_ _)); exact b8.out⟩, ⟨by repeat (first | (with_reducible first | exact HB.out | apply below_alloc | apply pw_below_drewN | apply below_drew1 | refine below_set ?_ g5.out) | exact HB.out)⟩⟩
               ·rw [if_neg q8] at H; have l2 : decide (b1 < 1) = false := decide_eq_false q8; clear q8
                (first | rw [l2] | (simp only [i64_w, i32_w]; rw [l2]) | skip)
                by_cases q9 : b2 < 1
                ·rw [if_pos q9] at H; have B4 : decide (b2 < 1) = true := decide_eq_true q9; clear q9
                 have H' := mk_ H
                 clear H; have L7 := b6.out; have L8 := d2.out; have L9 := a3.out; have M0 := d3.out; have E4 := bc0_ a2; have E5 := bc1_ a2; have E6 := bf_ a2 0; have E7 := bf_ a2 1; have M1 := a5.out; have M2 := d6.out; have E8 := bc0_ a4; have E9 := bc1_ a4; have F0 := bf_ a4 0; have F1 := bf_ a4 1; go_wp2; go_meet
                 case rel => exact ⟨_, (true), rf_, H', ⟨by have := h4.out; have := o7.out; first | omega | exact Nat.le_refl _⟩, ⟨by (with_reducible repeat (first | refine blk_drewN ?_ _ | refine blk_drew ?_ | refine blk_alloc ?_ _)); refine blk_far ?_ a3.out _; (with_reducible repeat (first | refine blk_drewN ?_ _ | refine blk_drew ?_ | refine blk_alloc ?_ _)); refine blk_far ?_ a3.out _; (with_reducible repeat (first | refine blk_drewN ?_ _ | refine blk_drew ?_ | refine blk_alloc ?_ _)); exact a2.out⟩, ⟨by (with_reducible repeat (first | refine blk_drewN ?_ _ | refine blk_drew ?_ | refine blk_alloc ?_ _)); refine blk_far ?_ a5.out _; (with_reducible repeat (first | refine blk_drewN ?_ _ | refine blk_drew ?_ | refine blk_alloc ?_ _)); refine blk_far ?_ a5.out _; (with_reducible repeat (first | refine blk_drewN ?_ _ | refine blk_drew ?_ | refine blk_alloc ?_ _)); exact a4.out⟩, ⟨by (with_reducible repeat (first | refine blk_drewN ?_ _ | refine blk_drew ?_ | refine blk_alloc ?_ _)); refine blk_put (cs := #[.int .i64 g7, .int .i64 0]) ?_ 1 _ rfl; (with_reducible repeat (first | refine blk_drewN ?_ _ | refine blk_drew ?_ | refine blk_alloc ?_ _)); refine blk_put (cs := #[.int .i64 0, .int .i64 0]) ?_ 0 _ rfl; (with_reducible repeat (first | refine blk_drewN ?_ _ | refine blk_drew ?_ | refine blk_alloc ?_ _)); exact b8.out⟩, ⟨by repeat (first | (with_reducible first | exact HB.out | apply below_alloc | apply pw_below_drewN | apply below_drew1 | refine below_set ?_ g5.out) | exact HB.out)⟩⟩
                ·rw [if_neg q9] at H; have B4 : decide (b2 < 1) = false := decide_eq_false q9; clear q9
                 have H' := mk_ H
                 clear H; have M3 := b6.out; have M4 := d2.out; have M5 := a3.out; have M6 := d3.out; have F2 := bc0_ a2; have F3 := bc1_ a2; have F4 := bf_ a2 0; have F5 := bf_ a2 1; have M7 := a5.out; have M8 := d6.out; have F6 := bc0_ a4; have F7 := bc1_ a4; have F8 := bf_ a4 0; have F9 := bf_ a4 1; have G0 := bc0_ b8; have G1 := bc1_ b8; have G2 := bf_ b8 0; have G3 := bf_ b8 1; go_wp2; go_meet
                 case rel => exact ⟨_, (decide (o1 < 1)), rf_, H', ⟨by have := h4.out; have := o7.out; first | omega | exact Nat.le_refl _⟩, ⟨by (with_reducible repeat (first | refine blk_drewN ?_ _ | refine blk_drew ?_ | refine blk_alloc ?_ _)); refine blk_far ?_ a3.out _; (with_reducible repeat (first | refine blk_drewN ?_ _ | refine blk_drew ?_ | refine blk_alloc ?_ _)); refine blk_far ?_ a3.out _; (with_reducible repeat (first | refine blk_drewN ?_ _ | refine blk_drew ?_ | refine blk_alloc ?_ _)); exact a2.out⟩, ⟨by (with_reducible repeat (first | refine blk_drewN ?_ _ | refine blk_drew ?_ | refine blk_alloc ?_ _)); refine blk_far ?_ a5.out _; (with_reducible repeat (first | refine blk_drewN ?_ _ | refine blk_drew ?_ | refine blk_alloc ?_ _)); refine blk_far ?_ a5.out _; (with_reducible repeat (first | refine blk_drewN ?_ _ | refine blk_drew ?_ | refine blk_alloc ?_ _)); exact a4.out⟩, ⟨by (with_reducible repeat (first | refine blk_drewN ?_ _ | refine blk_drew ?_ | refine blk_alloc ?_ _)); refine blk_put (cs := #[.int .i64 g7, .int .i64 0]) ?_ 1 _ rfl; (with_reducible repeat (first | refine blk_drewN ?_ _ | refine blk_drew ?_ | refine blk_alloc ?_ _)); refine blk_put (cs := #[.int .i64 0, .int .i64 0]) ?_ 0 _ rfl; (with_reducible repeat (first | refine blk_drewN ?_ _ | refine blk_drew ?_ | refine blk_alloc ?_ _)); exact b8.out⟩, ⟨by repeat (first | (with_reducible first | exact HB.out | apply below_alloc | apply pw_below_drewN | apply below_drew1 | refine below_set ?_ g5.out) | exact HB.out)⟩⟩
              ·replace D9 := Bool.eq_false_iff.mpr D9; subst D9; rw [if_neg (show ¬ (false = true) by decide)] at H
               have H' := mk_ H
               clear H; go_wp2; go_meet
               case rel => exact ⟨_, (true), rf_, H', ⟨by have := h4.out; have := o7.out; first | omega | exact Nat.le_refl _⟩, ⟨by (with_reducible repeat (first | refine blk_drewN ?_ _ | refine blk_drew ?_ | refine blk_alloc ?_ _)); refine blk_far ?_ a3.out _; (with_reducible repeat (first | refine blk_drewN ?_ _ | refine blk_drew ?_ | refine blk_alloc ?_ _)); refine blk_far ?_ a3.out _; (with_reducible repeat (first | refine blk_drewN ?_ _ | refine blk_drew ?_ | refine blk_alloc ?_ _)); exact a2.out⟩, ⟨by (with_reducible repeat (first | refine blk_drewN ?_ _ | refine blk_drew ?_ | refine blk_alloc ?_ _)); refine blk_far ?_ a5.out _; (with_reducible repeat (first | refine blk_drewN ?_ _ | refine blk_drew ?_ | refine blk_alloc ?_ _)); refine blk_far ?_ a5.out _; (with_reducible repeat (first | refine blk_drewN ?_ _ | refine blk_drew ?_ | refine blk_alloc ?_ _)); exact a4.out⟩, ⟨by (with_reducible repeat (first | refine blk_drewN ?_ _ | refine blk_drew ?_ | refine blk_alloc ?_ _)); refine blk_put (cs := #[.int .i64 g7, .int .i64 0]) ?_ 1 _ rfl; (with_reducible repeat (first | refine blk_drewN ?_ _ | refine blk_drew ?_ | refine blk_alloc ?_ _)); refine blk_put (cs := #[.int .i64 0, .int .i64 0]) ?_ 0 _ rfl; (with_reducible repeat (first | refine blk_drewN ?_ _ | refine blk_drew ?_ | refine blk_alloc ?_ _)); exact b8.out⟩, ⟨by repeat (first | (with_reducible first | exact HB.out | apply below_alloc | apply pw_below_drewN | apply below_drew1 | refine below_set ?_ g5.out) | exact HB.out)⟩⟩
             ·replace D8 := Bool.eq_false_iff.mpr D8; subst D8; rw [if_neg (show ¬ (false = true) by decide)] at H
              have H' := mk_ H
              clear H; go_wp2; go_meet
              case rel => exact ⟨_, (true), rf_, H', ⟨by have := h4.out; have := o7.out; first | omega | exact Nat.le_refl _⟩, ⟨by (with_reducible repeat (first | refine blk_drewN ?_ _ | refine blk_drew ?_ | refine blk_alloc ?_ _)); refine blk_far ?_ a3.out _; (with_reducible repeat (first | refine blk_drewN ?_ _ | refine blk_drew ?_ | refine blk_alloc ?_ _)); refine blk_far ?_ a3.out _; (with_reducible repeat (first | refine blk_drewN ?_ _ | refine blk_drew ?_ | refine blk_alloc ?_ _)); exact a2.out⟩, ⟨by (with_reducible repeat (first | refine blk_drewN ?_ _ | refine blk_drew ?_ | refine blk_alloc ?_ _)); refine blk_far ?_ a5.out _; (with_reducible repeat (first | refine blk_drewN ?_ _ | refine blk_drew ?_ | refine blk_alloc ?_ _)); refine blk_far ?_ a5.out _; (with_reducible repeat (first | refine blk_drewN ?_ _ | refine blk_drew ?_ | refine blk_alloc ?_ _)); exact a4.out⟩, ⟨by (with_reducible repeat (first | refine blk_drewN ?_ _ | refine blk_drew ?_ | refine blk_alloc ?_ _)); refine blk_put (cs := #[.int .i64 g7, .int .i64 0]) ?_ 1 _ rfl; (with_reducible repeat (first | refine blk_drewN ?_ _ | refine blk_drew ?_ | refine blk_alloc ?_ _)); refine blk_put (cs := #[.int .i64 0, .int .i64 0]) ?_ 0 _ rfl; (with_reducible repeat (first | refine blk_drewN ?_ _ | refine blk_drew ?_ | refine blk_alloc ?_ _)); exact b8.out⟩, ⟨by repeat (first | (with_reducible first | exact HB.out | apply below_alloc | apply pw_below_drewN | apply below_drew1 | refine below_set ?_ g5.out) | exact HB.out)⟩⟩
            ·replace D7 := Bool.eq_false_iff.mpr D7; subst D7; rw [if_neg (show ¬ (false = true) by decide)] at H
             have H' := mk_ H
             clear H; go_wp2; go_meet
             case rel => exact ⟨_, (true), rf_, H', ⟨by have := h4.out; have := o7.out; first | omega | exact Nat.le_refl _⟩, ⟨by (with_reducible repeat (first | refine blk_drewN ?_ _ | refine blk_drew ?_ | refine blk_alloc ?_ _)); refine blk_far ?_ a3.out _; (with_reducible repeat (first | refine blk_drewN ?_ _ | refine blk_drew ?_ | refine blk_alloc ?_ _)); refine blk_far ?_ a3.out _; (with_reducible repeat (first | refine blk_drewN ?_ _ | refine blk_drew ?_ | refine blk_alloc ?_ _)); exact a2.out⟩, ⟨by (with_reducible repeat (first | refine blk_drewN ?_ _ | refine blk_drew ?_ | refine blk_alloc ?_ _)); refine blk_far ?_ a5.out _; (with_reducible repeat (first | refine blk_drewN ?_ _ | refine blk_drew ?_ | refine blk_alloc ?_ _)); refine blk_far ?_ a5.out _; (with_reducible repeat (first | refine blk_drewN ?_ _ | refine blk_drew ?_ | refine blk_alloc ?_ _)); exact a4.out⟩, ⟨by (with_reducible repeat (first | refine blk_drewN ?_ _ | refine blk_drew ?_ | refine blk_alloc ?_ _)); refine blk_put (cs := #[.int .i64 g7, .int .i64 0]) ?_ 1 _ rfl; (with_reducible repeat (first | refine blk_drewN ?_ _ | refine blk_drew ?_ | refine blk_alloc ?_ _)); refine blk_put (cs := #[.int .i64 0, .int .i64 0]) ?_ 0 _ rfl; (with_reducible repeat (first | refine blk_drewN ?_ _ | refine blk_drew ?_ | refine blk_alloc ?_ _)); exact b8.out⟩, ⟨by repeat (first | (with_reducible first | exact HB.out | apply below_alloc | apply pw_below_drewN | apply below_drew1 | refine below_set ?_ g5.out) | exact HB.out)⟩⟩
           case rest =>
            clear q2; (try clear c3); (try clear c7); (try clear q7); (try clear p9); (try clear o8); (try clear y8); (try clear A1)
            obtain ⟨kq, d8, rfl, HA, O6, a2, a4, b8, HB⟩ := hcut
            cases kq with
            | zero => exact absurd HA.out (by simp [laws_FnCycles.j2])
            | succ kj41 =>
             have H := HA.out; clear HA
             simp only [laws_FnCycles.j2] at H
             by_cases G4 : d8 = true
             ·subst G4; rw [if_pos rfl] at H
              obtain rfl := Option.some.inj H; go_wp2
              go_ret
              exact ⟨re_, hw_ HB⟩
             ·replace G4 := Bool.eq_false_iff.mpr G4; subst G4; rw [if_neg (show ¬ (false = true) by decide)] at H; by_cases q4 : b4 = 2
              ·rw [if_pos q4] at H; have B5 : (b4 == 2) = true := beq_iff_eq.mpr q4; have B6 : (b4 != 2) = false := bne_eq_false_iff_eq.mpr q4; clear q4; obtain rfl := Option.some.inj H; have M9 := b6.out; have N0 := d2.out; have N1 := a3.out; have N2 := d3.out; have G5 := bc0_ a2; have G6 := bc1_ a2; have G7 := bf_ a2 0; have G8 := bf_ a2 1; have N3 := a5.out; have N4 := d6.out; have G9 := bc0_ a4; have H0 := bc1_ a4; have H1 := bf_ a4 0; have H2 := bf_ a4 1; have H3 := bc0_ b8; have H4 := bc1_ b8; have H5 := bf_ b8 0; have H6 := bf_ b8 1; go_wp2; go_ret
               exact ⟨re_, hw_ HB⟩
              ·rw [if_neg q4] at H; have B5 : (b4 == 2) = false := beq_eq_false_iff_ne.mpr q4; have B6 : (b4 != 2) = true := bne_iff_ne.mpr q4; obtain rfl := Option.some.inj H; go_wp2; go_ret
               exact ⟨re_, hw_ HB⟩
          ·rw [if_neg A1] at H
           exact absurd H (by simp)
         ·rw [if_neg y8] at H
          exact absurd H (by simp)

/-- THE ONE PURE STATEMENT of laws_FnCycles: yours. -/
def laws_FnCycles.Pure : Prop := ∀ (l0 : List Int), l0.length ≤ maxLen → l0.length * 1 ≤ 140737488351232 → (∀ x ∈ l0, (Lit.int .u8 x).wf = true) → ∃ k, laws_FnCycles.f k l0 = some true
theorem laws_FnCycles.walk (P : laws_FnCycles.Pure) (a0 : Option Addr) (len0 cap0 : Nat) (z0 : List Int) (w : World) (w0 : (a0 = none ∧ len0 = 0 ∧ cap0 = 0 ∧ z0 = []) ∨ ∃ x, a0 = some x ∧ len0 ≤ cap0 ∧ cap0 ≤ maxLen ∧ z0.length = cap0 ∧ (∀ i, i < z0.length → w.cell? (x.add i) = some (.int .u8 (z0.getD i 0))) ∧ ∀ n ∈ z0, (Lit.int .u8 n).wf = true) (y0 : len0 * 1 ≤ 140737488351232) :
  Calls Try.prog 10 #[.slice a0 len0 cap0] w fun e w' => e = .returned (.bool true) ∧ Below w.heap.size w w' := by
 obtain ⟨l0, rfl, hr0, hm0, hw0, hc0⟩ := ReadsInt.ofRowC w0
 obtain ⟨k, h⟩ := P l0 hm0 y0 hw0
 refine (laws_FnCycles.calls k _ _ l0 true w (Kd.C_of_reads (d := (0 : Int)) (h1 := fun _ => rfl) hr0) hc0 h).mono ?_
 rintro e w' ⟨rfl, hd⟩
 exact ⟨rfl, hd⟩

end Go.Proofs.Ytnphbpkpjinddaa.QFnCycles
-- squeezed
