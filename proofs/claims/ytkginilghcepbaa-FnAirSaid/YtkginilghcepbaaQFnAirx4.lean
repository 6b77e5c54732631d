/- Lean functions that tell what the Go functions used by one law answer, and for each a proof that the Go code comes to just these answers; no condition. Printed by this session's own program over the kit's printer. -/
import Derived.Test.YtkginilghcepbaaWSq
import Derived.Test.YtkginilghcepbaaQFnAirx0
import Derived.Test.YtkginilghcepbaaQFnAirx3
namespace Go.Proofs.Ytkginilghcepbaa.QFnAir
open Go.RowKit Go.Proofs.YtkginilghcepbaaW.PrintWords Go.Proofs.YtkginilghcepbaaW.PrintLast Go.Proofs.YtkginilghcepbaaW.PrintMore
attribute [local go_sem] max2_int min2_int max_two min_two max_three min_three max_four min_four   -- for this text's walks alone
attribute [local go_sem high] go_eql go_neq go_lss go_leq go_gtr go_geq go_store   -- for this text's walks alone
set_option linter.unusedVariables false
set_option linter.unusedSimpArgs false

/-! ### impl_Coldest: function 38 -/
def impl_Coldest.l0 : Nat → Int → Int → Int → Int → Int → List Int → List Int → Option (Int × Int × Bool)
 | 0, _, _, _, _, _, _, _ => none
 | k + 1, x5, x6, D3, s4, g6, g7, g8 => if s4 < D3 then ((impl_warm.f k g6 g7 g8 s4).bind fun d3 => (if d3 < x6 then (impl_Coldest.l0 k s4 d3 D3 (wrap64 (s4 + 1)) g6 g7 g8) else (impl_Coldest.l0 k x5 x6 D3 (wrap64 (s4 + 1)) g6 g7 g8))) else (some (x5, x6, true))
def impl_Coldest.f (k : Nat) (a0_0 : Int) (l0_1 : List Int) (l0_2 : List Int) : Option (Int × Int × Bool) := (impl_AirOk.f k a0_0 l0_1 l0_2).bind fun l4 => (if l4 = true then (if 0 ≤ (wrap64 ((l0_2.length : Int) - 1)) then (if (wrap64 ((l0_2.length : Int) - 1)) < (l0_2.length : Int) then (impl_Coldest.l0 k 0 a0_0 (wrap64 ((rd l0_2 (wrap64 ((l0_2.length : Int) - 1))) + 1)) 0 a0_0 l0_1 l0_2) else (none)) else (none)) else (some (0, 0, false)))
theorem impl_Coldest.mono_l : ∀ k, (∀ y0 y1 y2 y3 y4 y5 y6, LeO (impl_Coldest.l0 k y0 y1 y2 y3 y4 y5 y6) (impl_Coldest.l0 (k + 1) y0 y1 y2 y3 y4 y5 y6))
 | 0 => fun _ _ _ _ _ _ _ r h => by simp [impl_Coldest.l0] at h
 | k + 1 => by
  have g1 := impl_Coldest.mono_l k
  ·intro y0 y1 y2 y3 y4 y5 y6
   unfold impl_Coldest.l0
   repeat' first
   | (with_reducible exact g1 _ _ _ _ _ _ _)
   | (with_reducible exact impl_AirOk.mono _ _ _ _)
   | (with_reducible exact impl_warm.mono _ _ _ _ _)
   | (with_reducible exact LeO.refl _)
   | (with_reducible exact LeO.none _)
   | (with_reducible refine LeO.ite ?_ ?_)
   | (with_reducible refine LeO.bind ?_ (fun _ => ?_))
   | exact g1 _ _ _ _ _ _ _
   | exact impl_AirOk.mono _ _ _ _
   | exact impl_warm.mono _ _ _ _ _
   | exact LeO.none _
   | refine LeO.ite ?_ ?_
   | refine LeO.bind ?_ (fun _ => ?_)
theorem impl_Coldest.mono : ∀ a0 a1 a2 k, LeO (impl_Coldest.f k a0 a1 a2) (impl_Coldest.f (k + 1) a0 a1 a2) := by
 intro a0 a1 a2 k
 have g1 := impl_Coldest.mono_l k
 unfold impl_Coldest.f
 repeat' first
   | (with_reducible exact g1 _ _ _ _ _ _ _)
   | (with_reducible exact impl_AirOk.mono _ _ _ _)
   | (with_reducible exact impl_warm.mono _ _ _ _ _)
   | (with_reducible exact LeO.refl _)
   | (with_reducible exact LeO.none _)
   | (with_reducible refine LeO.ite ?_ ?_)
   | (with_reducible refine LeO.bind ?_ (fun _ => ?_))
   | exact g1 _ _ _ _ _ _ _
   | exact impl_AirOk.mono _ _ _ _
   | exact impl_warm.mono _ _ _ _ _
   | exact LeO.none _
   | refine LeO.ite ?_ ?_
   | refine LeO.bind ?_ (fun _ => ?_)
set_option maxHeartbeats 8000000 in
set_option maxRecDepth 100000 in
theorem impl_Coldest.calls (k : Nat) (a0_0 : Int) (A0_1 : Option Addr) (c0_1 : Nat) (l0_1 : List Int) (A0_2 : Option Addr) (c0_2 : Nat) (l0_2 : List Int) (r1 : Int) (r2 : Int) (r3 : Bool) (w : World) (hr0_1 : Kd.C (Kd.int .i64) w A0_1 l0_1.length l0_1) (hc0_1 : l0_1.length ≤ c0_1) (hr0_2 : Kd.C (Kd.int .i64) w A0_2 l0_2.length l0_2) (hc0_2 : l0_2.length ≤ c0_2) (h : impl_Coldest.f k a0_0 l0_1 l0_2 = some (r1, r2, r3)) :
  Calls Try.prog 38 #[.agg #[.int .i64 a0_0, .slice A0_1 l0_1.length c0_1, .slice A0_2 l0_2.length c0_2]] w fun e w' => e = .returned (.tuple #[.int .i64 r1, .int .i64 r2, .bool r3]) ∧ Below w.heap.size w w' := by
 have s5 := Try.underlying79
 have b3 := mk_ hr0_1; have b4 := mk_ hc0_1; clear hr0_1 hc0_1; have b1 := mk_ hr0_2; have b2 := mk_ hc0_2; clear hr0_2 hc0_2; have HB := mk_ (Below.refl w.heap.size w)
 have H : ((impl_AirOk.f k a0_0 l0_1 l0_2).bind fun l4 => (if l4 = true then (if 0 ≤ (wrap64 ((l0_2.length : Int) - 1)) then (if (wrap64 ((l0_2.length : Int) - 1)) < (l0_2.length : Int) then (impl_Coldest.l0 k 0 a0_0 (wrap64 ((rd l0_2 (wrap64 ((l0_2.length : Int) - 1))) + 1)) 0 a0_0 l0_1 l0_2) else (none)) else (none)) else (some (0, 0, false)))) = some (r1, r2, r3) := h
 clear h; replace H := Option.bind_eq_some_iff.mp H; obtain ⟨l4, s6, H⟩ := H
 replace H : (if l4 = true then (if 0 ≤ (wrap64 ((l0_2.length : Int) - 1)) then (if (wrap64 ((l0_2.length : Int) - 1)) < (l0_2.length : Int) then (impl_Coldest.l0 k 0 a0_0 (wrap64 ((rd l0_2 (wrap64 ((l0_2.length : Int) - 1))) + 1)) 0 a0_0 l0_1 l0_2) else (none)) else (none)) else (some (0, 0, false))) = some (r1, r2, r3) := H
 have A2 := mk_ s6; clear s6; by_cases c3 : l4 = true
 ·subst c3
  have H1 : (if 0 ≤ (wrap64 ((l0_2.length : Int) - 1)) then (if (wrap64 ((l0_2.length : Int) - 1)) < (l0_2.length : Int) then (impl_Coldest.l0 k 0 a0_0 (wrap64 ((rd l0_2 (wrap64 ((l0_2.length : Int) - 1))) + 1)) 0 a0_0 l0_1 l0_2) else (none)) else (none)) = some (r1, r2, r3) := by rw [if_pos rfl] at H; exact H
  clear H
  have H := H1
  clear H1
  obtain ⟨g2, l8⟩ : ∃ j_ : Int, (wrap64 ((l0_2.length : Int) - 1)) = j_ := ⟨_, rfl⟩
  replace H : (if 0 ≤ (g2) then (if (g2) < (l0_2.length : Int) then (impl_Coldest.l0 k 0 a0_0 (wrap64 ((rd l0_2 (g2)) + 1)) 0 a0_0 l0_1 l0_2) else (none)) else (none)) = some (r1, r2, r3) := by first | (rw [l8] at H; exact H) | (simp only [l8] at H ⊢; exact H)
  (try rw [l8] at A2)
  have hji4w : (IntKind.i64.wrap ((l0_2.length : Int) - 1)) = g2 := (i64_w _).trans l8
  by_cases c5 : 0 ≤ (g2)
  ·rw [if_pos c5] at H; have l9 : decide (0 ≤ (g2)) = true := decide_eq_true c5; clear c5; by_cases c6 : (g2) < (l0_2.length : Int)
   ·rw [if_pos c6] at H; have n8 : decide ((g2) < (l0_2.length : Int)) = true := decide_eq_true c6; clear c6
    have H' := mk_ H
    clear H
    go_enter Try.func38, Try.ntmps38
    go_wp2_with (first | ((with_reducible refine gd_ 1 rfl ?_); refine box_event ?hg (N := 1) ?hd (cs := #[.int .i64 a0_0, .slice A0_1 l0_1.length c0_1, .slice A0_2 l0_2.length c0_2]) (t := 79) ?hr ?_; (case hd => rfl); (case hg => rfl); (case hr => exact hr_); intro g5 hg w7 hbox hb; have a4 := mk_ (hbox); have d0 := gk_ hg HB; replace HB := hk_ HB hb; have h0 := d0; clear hb hbox hg; have m0 := bc0_ a4; have m2 := bc1_ a4; have m3 := bc2_ a4; have m4 := bf_ a4 0; have m5 := bf_ a4 1; have m6 := bf_ a4 2) | (go_at_call 40; (with_reducible refine (impl_AirOk.calls k a0_0 _ _ l0_1 _ _ l0_2 true _ ?a5 ?a6 ?a9 ?b0 A2.out).mono ?_); (case a5 => exact cw_ (Kd.C_below b3.out HB.out)); (case a6 => exact b4.out); (case a9 => exact cw_ (Kd.C_below b1.out HB.out)); (case b0 => exact b2.out); rintro e w9 ⟨rfl, hb⟩; replace a4 := bk_ a4 hb; replace HB := hk_ HB hb; (try clear hb); (try clear h6); (try clear hk); (try clear hi); have j7 := bc0_ a4; have j8 := bc1_ a4; have j9 := bc2_ a4; have l1 := bf_ a4 0; have l2 := bf_ a4 1; have l3 := bf_ a4 2; have g3 : 0 ≤ ((g2) : Int) := od_; have g4 : (g2) < (l0_2.length : Int) := od_; obtain ⟨m7, m8, b5⟩ := Kd.at_int b1.out (g2) g3 g4; cases m8; replace b5 := (HB.out.cell (World.block_lt_of_cell? w _ b5)).trans b5; replace g3 := eq_true g3; replace g4 := eq_true g4))
    repeat (go_quiet (first | ((with_reducible refine gd_ 1 rfl ?_); refine box_event ?hg (N := 1) ?hd (cs := #[.int .i64 a0_0, .slice A0_1 l0_1.length c0_1, .slice A0_2 l0_2.length c0_2]) (t := 79) ?hr ?_; (case hd => rfl); (case hg => rfl); (case hr => exact hr_); intro g5 hg w7 hbox hb; have a4 := mk_ (hbox); have d0 := gk_ hg HB; replace HB := hk_ HB hb; have h0 := d0; clear hb hbox hg; have m0 := bc0_ a4; have m2 := bc1_ a4; have m3 := bc2_ a4; have m4 := bf_ a4 0; have m5 := bf_ a4 1; have m6 := bf_ a4 2) | (go_at_call 40; (with_reducible refine (impl_AirOk.calls k a0_0 _ _ l0_1 _ _ l0_2 true _ ?a5 ?a6 ?a9 ?b0 A2.out).mono ?_); (case a5 => exact cw_ (Kd.C_below b3.out HB.out)); (case a6 => exact b4.out); (case a9 => exact cw_ (Kd.C_below b1.out HB.out)); (case b0 => exact b2.out); rintro e w9 ⟨rfl, hb⟩; replace a4 := bk_ a4 hb; replace HB := hk_ HB hb; (try clear hb); (try clear h6); (try clear hk); (try clear hi); have j7 := bc0_ a4; have j8 := bc1_ a4; have j9 := bc2_ a4; have l1 := bf_ a4 0; have l2 := bf_ a4 1; have l3 := bf_ a4 2; have g3 : 0 ≤ ((g2) : Int) := od_; have g4 : (g2) < (l0_2.length : Int) := od_; obtain ⟨m7, m8, b5⟩ := Kd.at_int b1.out (g2) g3 g4; cases m8; replace b5 := (HB.out.cell (World.block_lt_of_cell? w _ b5)).trans b5; replace g3 := eq_true g3; replace g4 := eq_true g4)); try go_wp2_with (first | ((with_reducible refine gd_ 1 rfl ?_); refine box_event ?hg (N := 1) ?hd (cs := #[.int .i64 a0_0, .slice A0_1 l0_1.length c0_1, .slice A0_2 l0_2.length c0_2]) (t := 79) ?hr ?_; (case hd => rfl); (case hg => rfl); (case hr => exact hr_); intro g5 hg w7 hbox hb; have a4 := mk_ (hbox); have d0 := gk_ hg HB; replace HB := hk_ HB hb; have h0 := d0; clear hb hbox hg; have m0 := bc0_ a4; have m2 := bc1_ a4; have m3 := bc2_ a4; have m4 := bf_ a4 0; have m5 := bf_ a4 1; have m6 := bf_ a4 2) | (go_at_call 40; (with_reducible refine (impl_AirOk.calls k a0_0 _ _ l0_1 _ _ l0_2 true _ ?a5 ?a6 ?a9 ?b0 A2.out).mono ?_); (case a5 => exact cw_ (Kd.C_below b3.out HB.out)); (case a6 => exact b4.out); (case a9 => exact cw_ (Kd.C_below b1.out HB.out)); (case b0 => exact b2.out); rintro e w9 ⟨rfl, hb⟩; replace a4 := bk_ a4 hb; replace HB := hk_ HB hb; (try clear hb); (try clear h6); (try clear hk); (try clear hi); have j7 := bc0_ a4; have j8 := bc1_ a4; have j9 := bc2_ a4; have l1 := bf_ a4 0; have l2 := bf_ a4 1; have l3 := bf_ a4 2; have g3 : 0 ≤ ((g2) : Int) := od_; have g4 : (g2) < (l0_2.length : Int) := od_; obtain ⟨m7, m8, b5⟩ := Kd.at_int b1.out (g2) g3 g4; cases m8; replace b5 := (HB.out.cell (World.block_lt_of_cell? w _ b5)).trans b5; replace g3 := eq_true g3; replace g4 := eq_true g4)))
    go_loopg [5, 6, 23] k (fun kq v5 v6 v23 w' => ∃ (b7 : Int) (g9 : Int) (b6 : Int), v5 = .int .i64 b7 ∧ v6 = .int .i64 g9 ∧ v23 = .int .i64 b6 ∧ Aside0 (impl_Coldest.l0 kq b7 g9 (wrap64 ((rd l0_2 (g2)) + 1)) b6 a0_0 l0_1 l0_2 = some (r1, r2, r3)) ∧ Aside0 (kq ≤ k) ∧ Aside0 (w'.heap[g5]? = some (.cells #[.int .i64 a0_0, (.slice A0_1 l0_1.length c0_1), (.slice (some m7) l0_2.length c0_2)] 79 (0, 0))) ∧ Aside0 (Below w.heap.size w w'))
    case atStart => exact ⟨(0), (a0_0), (0), rf_, rf_, rf_, H', ⟨Nat.le_refl _⟩, bw_ a4, ⟨hw_ HB⟩⟩
    case round =>
     clear H'; (try clear c3); (try clear c5); (try clear l9); (try clear c6)
     obtain ⟨b7, g9, b6, rfl, rfl, rfl, HA, l5, a4, HB⟩ := hrel
     cases gk with
     | zero => exact absurd HA.out (by simp [impl_Coldest.l0])
     | succ k1 =>
      have H := HA.out; clear HA
      simp only [impl_Coldest.l0] at H
      by_cases s1 : b6 < (wrap64 ((rd l0_2 (g2)) + 1))
      ·rw [if_pos s1] at H; have s7 : decide (b6 < (wrap64 ((rd l0_2 (g2)) + 1))) = true := decide_eq_true s1; clear s1; replace H := Option.bind_eq_some_iff.mp H; obtain ⟨d3, s8, H⟩ := H
       replace H : (if d3 < g9 then (impl_Coldest.l0 k1 b6 d3 (wrap64 ((rd l0_2 (g2)) + 1)) (wrap64 (b6 + 1)) a0_0 l0_1 l0_2) else (impl_Coldest.l0 k1 b7 g9 (wrap64 ((rd l0_2 (g2)) + 1)) (wrap64 (b6 + 1)) a0_0 l0_1 l0_2)) = some (r1, r2, r3) := H
       have s2 := mk_ s8; clear s8; by_cases s3 : d3 < g9
       ·rw [if_pos s3] at H; have s9 : decide (d3 < g9) = true := decide_eq_true s3; clear s3
        have H' := mk_ H
        clear H; have n9 := bc0_ a4; have o0 := bc1_ a4; have o1 := bc2_ a4; have o2 := bf_ a4 0; have o3 := bf_ a4 1; have o4 := bf_ a4 2
        go_wp2_with (first | (go_at_call 81; (with_reducible refine (impl_warm.calls k1 a0_0 _ _ l0_1 _ _ l0_2 b6 d3 _ ?a5 ?a6 ?a9 ?b0 s2.out).mono ?_); (case a5 => exact cw_ (Kd.C_below b3.out HB.out)); (case a6 => exact b4.out); (case a9 => exact cw_ (Kd.C_below b1.out HB.out)); (case b0 => exact b2.out); rintro e D4 ⟨rfl, hb⟩; replace a4 := bk_ a4 hb; replace HB := hk_ HB hb; (try clear hb); (try clear h6); (try clear hk); (try clear hi)))
        repeat (go_quiet (first | (go_at_call 81; (with_reducible refine (impl_warm.calls k1 a0_0 _ _ l0_1 _ _ l0_2 b6 d3 _ ?a5 ?a6 ?a9 ?b0 s2.out).mono ?_); (case a5 => exact cw_ (Kd.C_below b3.out HB.out)); (case a6 => exact b4.out); (case a9 => exact cw_ (Kd.C_below b1.out HB.out)); (case b0 => exact b2.out); rintro e D4 ⟨rfl, hb⟩; replace a4 := bk_ a4 hb; replace HB := hk_ HB hb; (try clear hb); (try clear h6); (try clear hk); (try clear hi))); try go_wp2_with (first | (go_at_call 81; (with_reducible refine (impl_warm.calls k1 a0_0 _ _ l0_1 _ _ l0_2 b6 d3 _ ?a5 ?a6 ?a9 ?b0 s2.out).mono ?_); (case a5 => exact cw_ (Kd.C_below b3.out HB.out)); (case a6 => exact b4.out); (case a9 => exact cw_ (Kd.C_below b1.out HB.out)); (case b0 => exact b2.out); rintro e D4 ⟨rfl, hb⟩; replace a4 := bk_ a4 hb; replace HB := hk_ HB hb; (try clear hb); (try clear h6); (try clear hk); (try clear hi))))
        go_roundg k1
        case measure => have := l5.out; omega
        case rel => exact ⟨(b6), (d3), (wrap64 (b6 + 1)), rf_, rf_, rf_, H', ⟨by have := l5.out; omega⟩, bw_ a4, ⟨hw_ HB⟩⟩
       ·rw [if_neg s3] at H; have s9 : decide (d3 < g9) = false := decide_eq_false s3; clear s3
        have H' := mk_ H
        clear H; have t5 := bc0_ a4; have t6 := bc1_ a4; have t7 := bc2_ a4; have t8 := bf_ a4 0; have t9 := bf_ a4 1; have y7 := bf_ a4 2
        go_wp2_with (first | (go_at_call 81; (with_reducible refine (impl_warm.calls k1 a0_0 _ _ l0_1 _ _ l0_2 b6 d3 _ ?a5 ?a6 ?a9 ?b0 s2.out).mono ?_); (case a5 => exact cw_ (Kd.C_below b3.out HB.out)); (case a6 => exact b4.out); (case a9 => exact cw_ (Kd.C_below b1.out HB.out)); (case b0 => exact b2.out); rintro e E0 ⟨rfl, hb⟩; replace a4 := bk_ a4 hb; replace HB := hk_ HB hb; (try clear hb); (try clear h6); (try clear hk); (try clear hi)))
        repeat (go_quiet (first | (go_at_call 81; (with_reducible refine (impl_warm.calls k1 a0_0 _ _ l0_1 _ _ l0_2 b6 d3 _ ?a5 ?a6 ?a9 ?b0 s2.out).mono ?_); (case a5 => exact cw_ (Kd.C_below b3.out HB.out)); (case a6 => exact b4.out); (case a9 => exact cw_ (Kd.C_below b1.out HB.out)); (case b0 => exact b2.out); rintro e E0 ⟨rfl, hb⟩; replace a4 := bk_ a4 hb; replace HB := hk_ HB hb; (try clear hb); (try clear h6); (try clear hk); (try clear hi))); try go_wp2_with (first | (go_at_call 81; (with_reducible refine (impl_warm.calls k1 a0_0 _ _ l0_1 _ _ l0_2 b6 d3 _ ?a5 ?a6 ?a9 ?b0 s2.out).mono ?_); (case a5 => exact cw_ (Kd.C_below b3.out HB.out)); (case a6 => exact b4.out); (case a9 => exact cw_ (Kd.C_below b1.out HB.out)); (case b0 => exact b2.out); rintro e E0 ⟨rfl, hb⟩; replace a4 := bk_ a4 hb; replace HB := hk_ HB hb; (try clear hb); (try clear h6); (try clear hk); (try clear hi))))
        go_roundg k1
        case measure => have := l5.out; omega
        case rel => exact ⟨(b7), (g9), (wrap64 (b6 + 1)), rf_, rf_, rf_, H', ⟨by have := l5.out; omega⟩, bw_ a4, ⟨hw_ HB⟩⟩
      ·rw [if_neg s1] at H; have s7 : decide (b6 < (wrap64 ((rd l0_2 (g2)) + 1))) = false := decide_eq_false s1; clear s1
       simp only [Option.some.injEq, Prod.mk.injEq] at H
       obtain ⟨rfl, rfl, rfl⟩ := H; go_wp2
       repeat (go_quiet (fail); try go_wp2)
       go_ret3
       exact ⟨by first | rfl | (simp [errW_none, errW_some] <;> rfl) | (simp only [← l8]; first | rfl | (simp [errW_none, errW_some] <;> rfl)) | (simp [*, errW_none, errW_some] <;> rfl), hw_ HB⟩
   ·rw [if_neg c6] at H
    exact absurd H (by simp)
  ·rw [if_neg c5] at H
   exact absurd H (by simp)
 ·replace c3 := Bool.eq_false_iff.mpr c3; subst c3
  have H1 : (some (0, 0, false)) = some (r1, r2, r3) := by rw [if_neg (show ¬ (false = true) by decide)] at H; exact H
  clear H
  have H := H1
  clear H1
  simp only [Option.some.injEq, Prod.mk.injEq] at H
  obtain ⟨rfl, rfl, rfl⟩ := H
  go_enter Try.func38, Try.ntmps38
  go_wp2_with (first | ((with_reducible refine gd_ 1 rfl ?_); refine box_event ?hg (N := 1) ?hd (cs := #[.int .i64 a0_0, .slice A0_1 l0_1.length c0_1, .slice A0_2 l0_2.length c0_2]) (t := 79) ?hr ?_; (case hd => rfl); (case hg => rfl); (case hr => exact hr_); intro g5 hg y8 hbox hb; have a4 := mk_ (hbox); have d0 := gk_ hg HB; replace HB := hk_ HB hb; have h0 := d0; clear hb hbox hg; have d5 := bc0_ a4; have d6 := bc1_ a4; have d7 := bc2_ a4; have d8 := bf_ a4 0; have d9 := bf_ a4 1; have g0 := bf_ a4 2) | (go_at_call 40; (with_reducible refine (impl_AirOk.calls k a0_0 _ _ l0_1 _ _ l0_2 false _ ?a5 ?a6 ?a9 ?b0 A2.out).mono ?_); (case a5 => exact cw_ (Kd.C_below b3.out HB.out)); (case a6 => exact b4.out); (case a9 => exact cw_ (Kd.C_below b1.out HB.out)); (case b0 => exact b2.out); rintro e y9 ⟨rfl, hb⟩; replace a4 := bk_ a4 hb; replace HB := hk_ HB hb; (try clear hb); (try clear h6); (try clear hk); (try clear hi)))
  repeat (go_quiet (first | ((with_reducible refine gd_ 1 rfl ?_); refine box_event ?hg (N := 1) ?hd (cs := #[.int .i64 a0_0, .slice A0_1 l0_1.length c0_1, .slice A0_2 l0_2.length c0_2]) (t := 79) ?hr ?_; (case hd => rfl); (case hg => rfl); (case hr => exact hr_); intro g5 hg y8 hbox hb; have a4 := mk_ (hbox); have d0 := gk_ hg HB; replace HB := hk_ HB hb; have h0 := d0; clear hb hbox hg; have d5 := bc0_ a4; have d6 := bc1_ a4; have d7 := bc2_ a4; have d8 := bf_ a4 0; have d9 := bf_ a4 1; have g0 := bf_ a4 2) | (go_at_call 40; (with_reducible refine (impl_AirOk.calls k a0_0 _ _ l0_1 _ _ l0_2 false _ ?a5 ?a6 ?a9 ?b0 A2.out).mono ?_); (case a5 => exact cw_ (Kd.C_below b3.out HB.out)); (case a6 => exact b4.out); (case a9 => exact cw_ (Kd.C_below b1.out HB.out)); (case b0 => exact b2.out); rintro e y9 ⟨rfl, hb⟩; replace a4 := bk_ a4 hb; replace HB := hk_ HB hb; (try clear hb); (try clear h6); (try clear hk); (try clear hi))); try go_wp2_with (first | ((with_reducible refine gd_ 1 rfl ?_); refine box_event ?hg (N := 1) ?hd (cs := #[.int .i64 a0_0, .slice A0_1 l0_1.length c0_1, .slice A0_2 l0_2.length c0_2]) (t := 79) ?hr ?_; (case hd => rfl); (case hg => rfl); (case hr => exact hr_); intro g5 hg y8 hbox hb; have a4 := mk_ (hbox); have d0 := gk_ hg HB; replace HB := hk_ HB hb; have h0 := d0; clear hb hbox hg; have d5 := bc0_ a4; have d6 := bc1_ a4; have d7 := bc2_ a4; have d8 := bf_ a4 0; have d9 := bf_ a4 1; have g0 := bf_ a4 2) | (go_at_call 40; (with_reducible refine (impl_AirOk.calls k a0_0 _ _ l0_1 _ _ l0_2 false _ ?a5 ?a6 ?a9 ?b0 A2.out).mono ?_); (case a5 => exact cw_ (Kd.C_below b3.out HB.out)); (case a6 => exact b4.out); (case a9 => exact cw_ (Kd.C_below b1.out HB.out)); (case b0 => exact b2.out); rintro e y9 ⟨rfl, hb⟩; replace a4 := bk_ a4 hb; replace HB := hk_ HB hb; (try clear hb); (try clear h6); (try clear hk); (try clear hi))))
  go_ret3
  exact ⟨re_, hw_ HB⟩

/-! ### spec_l1In: function 82 -/
def spec_l1In.f (a0 : Int) (a1 : Int) (a2 : Int) : Option (Bool) := if a0 ≥ a1 then (some (decide (a0 ≤ a2))) else (some false)
set_option maxHeartbeats 8000000 in
set_option maxRecDepth 100000 in
theorem spec_l1In.calls (a0 : Int) (a1 : Int) (a2 : Int) (r : Bool) (w : World) (h : spec_l1In.f a0 a1 a2 = some r) :
  Calls Try.prog 82 #[.int .i64 a0, .int .i64 a1, .int .i64 a2] w fun e w' => e = .returned (.bool r) ∧ Drawn0 w w' := by
 have H : (if a0 ≥ a1 then (some (decide (a0 ≤ a2))) else (some false)) = some r := h
 clear h; by_cases c4 : a0 ≥ a1
 ·rw [if_pos c4] at H; have m9 : decide (a1 ≤ a0) = true := decide_eq_true c4; clear c4; obtain rfl := Option.some.inj H
  go_enter Try.func82, Try.ntmps82
  go_wp2; go_ret
  exact ⟨by first | rfl | (simp; done) | (simp [*]; done), by repeat (first | exact Drawn0.refl _ | apply Drawn0.step)⟩
 ·rw [if_neg c4] at H; have m9 : decide (a1 ≤ a0) = false := decide_eq_false c4; clear c4; obtain rfl := Option.some.inj H
  go_enter Try.func82, Try.ntmps82
  go_wp2; go_ret
  exact ⟨by first | rfl | (simp; done) | (simp [*]; done), by repeat (first | exact Drawn0.refl _ | apply Drawn0.step)⟩

/-! ### spec_l1All: function 51 -/
def spec_l1All.l0 : Nat → List Int → Int → Int → Int → Option (Bool)
 | 0, _, _, _, _ => none
 | k + 1, x0, x1, x2, x7 => if x7 < (x0.length : Int) then (if 0 ≤ x7 then ((spec_l1In.f (rd x0 x7) x1 x2).bind fun q5 => (if q5 = true then (spec_l1All.l0 k x0 x1 x2 (wrap64 (x7 + 1))) else (some false))) else (none)) else (some true)
def spec_l1All.f (k : Nat) (l0 : List Int) (a1 : Int) (a2 : Int) : Option (Bool) := spec_l1All.l0 k l0 a1 a2 0
theorem spec_l1All.mono_l : ∀ k, (∀ y0 y1 y2 y3, LeO (spec_l1All.l0 k y0 y1 y2 y3) (spec_l1All.l0 (k + 1) y0 y1 y2 y3))
 | 0 => fun _ _ _ _ r h => by simp [spec_l1All.l0] at h
 | k + 1 => by
  have g1 := spec_l1All.mono_l k
  ·intro y0 y1 y2 y3
   unfold spec_l1All.l0
   repeat' first
   | (with_reducible exact g1 _ _ _ _)
   | (with_reducible exact LeO.refl _)
   | (with_reducible exact LeO.none _)
   | (with_reducible refine LeO.ite ?_ ?_)
   | (with_reducible refine LeO.bind ?_ (fun _ => ?_))
   | exact g1 _ _ _ _
   | exact LeO.none _
   | refine LeO.ite ?_ ?_
   | refine LeO.bind ?_ (fun _ => ?_)
theorem spec_l1All.mono : ∀ a0 a1 a2 k, LeO (spec_l1All.f k a0 a1 a2) (spec_l1All.f (k + 1) a0 a1 a2) := by
 intro a0 a1 a2 k
 have g1 := spec_l1All.mono_l k
 unfold spec_l1All.f
 repeat' first
   | (with_reducible exact g1 _ _ _ _)
   | (with_reducible exact LeO.refl _)
   | (with_reducible exact LeO.none _)
   | (with_reducible refine LeO.ite ?_ ?_)
   | (with_reducible refine LeO.bind ?_ (fun _ => ?_))
   | exact g1 _ _ _ _
   | exact LeO.none _
   | refine LeO.ite ?_ ?_
   | refine LeO.bind ?_ (fun _ => ?_)
set_option maxHeartbeats 8000000 in
set_option maxRecDepth 100000 in
theorem spec_l1All.calls (k : Nat) (A0 : Option Addr) (c0 : Nat) (l0 : List Int) (a1 : Int) (a2 : Int) (r : Bool) (w : World) (hr0 : Kd.C (Kd.int .i64) w A0 l0.length l0) (hc0 : l0.length ≤ c0) (h : spec_l1All.f k l0 a1 a2 = some r) :
  Calls Try.prog 51 #[.slice A0 l0.length c0, .int .i64 a1, .int .i64 a2] w fun e w' => e = .returned (.bool r) ∧ Drawn0 w w' := by
 have n7 := mk_ hr0; have E1 := mk_ hc0; clear hr0 hc0
 have H : (spec_l1All.l0 k l0 a1 a2 0) = some r := h
 clear h
 have H' := mk_ H
 clear H
 go_enter Try.func51, Try.ntmps51
 go_wp2
 go_loopg [7] k (fun kq v7 w' => ∃ (b9 : Int), v7 = .int .i64 b9 ∧ Aside0 (spec_l1All.l0 kq l0 a1 a2 b9 = some r) ∧ Aside0 (kq ≤ k) ∧ Drawn0 w w')
 case atStart => exact ⟨(0), rf_, H', ⟨Nat.le_refl _⟩, by repeat (first | exact Drawn0.refl _ | apply Drawn0.step)⟩
 case round =>
  clear H'
  obtain ⟨b9, rfl, HA, l5, ⟨m1, rfl⟩⟩ := hrel
  cases gk with
  | zero => exact absurd HA.out (by simp [spec_l1All.l0])
  | succ k1 =>
   have H := HA.out; clear HA
   simp only [spec_l1All.l0] at H
   by_cases c4 : b9 < (l0.length : Int)
   ·rw [if_pos c4] at H; have m9 : decide (b9 < (l0.length : Int)) = true := decide_eq_true c4; clear c4; by_cases c5 : 0 ≤ b9
    ·rw [if_pos c5] at H; have l9 : decide (0 ≤ b9) = true := decide_eq_true c5; clear c5; replace H := Option.bind_eq_some_iff.mp H; obtain ⟨q5, E2, H⟩ := H; (try dsimp only at H); have A6 := mk_ E2; clear E2; by_cases c7 : q5 = true
     ·subst c7; rw [if_pos rfl] at H
      have H' := mk_ H
      clear H
      have h7 : 0 ≤ (b9 : Int) := od_
      have h8 : b9 < (l0.length : Int) := od_
      obtain ⟨t0, q6, o5⟩ := Kd.at_int n7.out b9 h7 h8; cases q6; replace h7 := eq_true h7; replace h8 := eq_true h8
      go_wp2_with (first | ((with_reducible refine gc_ 82 rfl ?_); refine gl_ (some 20) rfl Try.func82 #[.int .i64 (rd l0 b9), .int .i64 a1, .int .i64 a2] ?_; (with_reducible refine (spec_l1In.calls (rd l0 b9) a1 a2 true _ A6.out).mono ?_); rintro e w' ⟨rfl, ⟨nd, rfl⟩⟩; refine ⟨_, rfl, ?_⟩))
      go_roundg k1
      case measure => have := l5.out; omega
      case rel => exact ⟨(wrap64 (b9 + 1)), rf_, H', ⟨by have := l5.out; omega⟩, by repeat (first | exact Drawn0.refl _ | apply Drawn0.step)⟩
     ·replace c7 := Bool.eq_false_iff.mpr c7; subst c7; rw [if_neg (show ¬ (false = true) by decide)] at H; obtain rfl := Option.some.inj H
      have h7 : 0 ≤ (b9 : Int) := od_
      have h8 : b9 < (l0.length : Int) := od_
      obtain ⟨t0, q6, o5⟩ := Kd.at_int n7.out b9 h7 h8; cases q6; replace h7 := eq_true h7; replace h8 := eq_true h8
      go_wp2_with (first | ((with_reducible refine gc_ 82 rfl ?_); refine gl_ (some 20) rfl Try.func82 #[.int .i64 (rd l0 b9), .int .i64 a1, .int .i64 a2] ?_; (with_reducible refine (spec_l1In.calls (rd l0 b9) a1 a2 false _ A6.out).mono ?_); rintro e w' ⟨rfl, ⟨nd, rfl⟩⟩; refine ⟨_, rfl, ?_⟩))
      go_ret
      exact ⟨by first | rfl | (simp; done) | (simp [*]; done), by repeat (first | exact Drawn0.refl _ | apply Drawn0.step)⟩
    ·rw [if_neg c5] at H
     exact absurd H (by simp)
   ·rw [if_neg c4] at H; have m9 : decide (b9 < (l0.length : Int)) = false := decide_eq_false c4; clear c4; obtain rfl := Option.some.inj H; go_wp2; go_ret
    exact ⟨by first | rfl | (simp; done) | (simp [*]; done), by repeat (first | exact Drawn0.refl _ | apply Drawn0.step)⟩

/-! ### spec_l1Rise: function 83 -/
def spec_l1Rise.l0 : Nat → List Int → Int → Option (Bool)
 | 0, _, _ => none
 | k + 1, x0, x3 => if x3 < (x0.length : Int) then (if 0 ≤ (wrap64 (x3 - 1)) then (if (wrap64 (x3 - 1)) < (x0.length : Int) then (if 0 ≤ x3 then (if (rd x0 (wrap64 (x3 - 1))) ≥ (rd x0 x3) then (some false) else (spec_l1Rise.l0 k x0 (wrap64 (x3 + 1)))) else (none)) else (none)) else (none)) else (some true)
def spec_l1Rise.f (k : Nat) (l0 : List Int) : Option (Bool) := spec_l1Rise.l0 k l0 1
theorem spec_l1Rise.mono_l : ∀ k, (∀ y0 y1, LeO (spec_l1Rise.l0 k y0 y1) (spec_l1Rise.l0 (k + 1) y0 y1))
 | 0 => fun _ _ r h => by simp [spec_l1Rise.l0] at h
 | k + 1 => by
  have g1 := spec_l1Rise.mono_l k
  ·intro y0 y1
   unfold spec_l1Rise.l0
   repeat' first
   | (with_reducible exact g1 _ _)
   | (with_reducible exact LeO.refl _)
   | (with_reducible exact LeO.none _)
   | (with_reducible refine LeO.ite ?_ ?_)
   | (with_reducible refine LeO.bind ?_ (fun _ => ?_))
   | exact g1 _ _
   | exact LeO.none _
   | refine LeO.ite ?_ ?_
   | refine LeO.bind ?_ (fun _ => ?_)
theorem spec_l1Rise.mono : ∀ a0 k, LeO (spec_l1Rise.f k a0) (spec_l1Rise.f (k + 1) a0) := by
 intro a0 k
 have g1 := spec_l1Rise.mono_l k
 unfold spec_l1Rise.f
 repeat' first
   | (with_reducible exact g1 _ _)
   | (with_reducible exact LeO.refl _)
   | (with_reducible exact LeO.none _)
   | (with_reducible refine LeO.ite ?_ ?_)
   | (with_reducible refine LeO.bind ?_ (fun _ => ?_))
   | exact g1 _ _
   | exact LeO.none _
   | refine LeO.ite ?_ ?_
   | refine LeO.bind ?_ (fun _ => ?_)
set_option maxHeartbeats 8000000 in
set_option maxRecDepth 100000 in
theorem spec_l1Rise.calls (k : Nat) (A0 : Option Addr) (c0 : Nat) (l0 : List Int) (r : Bool) (w : World) (hr0 : Kd.C (Kd.int .i64) w A0 l0.length l0) (hc0 : l0.length ≤ c0) (h : spec_l1Rise.f k l0 = some r) :
  Calls Try.prog 83 #[.slice A0 l0.length c0] w fun e w' => e = .returned (.bool r) ∧ Drawn0 w w' := by
 have n7 := mk_ hr0; have E1 := mk_ hc0; clear hr0 hc0
 have H : (spec_l1Rise.l0 k l0 1) = some r := h
 clear h
 have H' := mk_ H
 clear H
 go_enter Try.func83, Try.ntmps83
 go_wp2
 repeat (go_quiet (fail); try go_wp2)
 go_loopg [3] k (fun kq v3 w' => ∃ (b8 : Int), v3 = .int .i64 b8 ∧ Aside0 (spec_l1Rise.l0 kq l0 b8 = some r) ∧ Aside0 (kq ≤ k) ∧ Drawn0 w w')
 case atStart => exact ⟨(1), rf_, H', ⟨Nat.le_refl _⟩, by repeat (first | exact Drawn0.refl _ | apply Drawn0.step)⟩
 case round =>
  clear H'
  obtain ⟨b8, rfl, HA, l5, ⟨m1, rfl⟩⟩ := hrel
  cases gk with
  | zero => exact absurd HA.out (by simp [spec_l1Rise.l0])
  | succ k1 =>
   have H := HA.out; clear HA
   simp only [spec_l1Rise.l0] at H
   by_cases c2 : b8 < (l0.length : Int)
   ·rw [if_pos c2] at H; have D5 : decide (b8 < (l0.length : Int)) = true := decide_eq_true c2; clear c2
    obtain ⟨h1, o6⟩ : ∃ j_ : Int, (wrap64 (b8 - 1)) = j_ := ⟨_, rfl⟩
    replace H : (if 0 ≤ (h1) then (if (h1) < (l0.length : Int) then (if 0 ≤ b8 then (if (rd l0 (h1)) ≥ (rd l0 b8) then (some false) else (spec_l1Rise.l0 k1 l0 (wrap64 (b8 + 1)))) else (none)) else (none)) else (none)) = some r := by first | (rw [o6] at H; exact H) | (simp only [o6] at H ⊢; exact H)
    have hji3w : (IntKind.i64.wrap (b8 - 1)) = h1 := (i64_w _).trans o6
    by_cases c4 : 0 ≤ (h1)
    ·rw [if_pos c4] at H; have m9 : decide (0 ≤ (h1)) = true := decide_eq_true c4; clear c4; by_cases c5 : (h1) < (l0.length : Int)
     ·rw [if_pos c5] at H; have l9 : decide ((h1) < (l0.length : Int)) = true := decide_eq_true c5; clear c5; by_cases c6 : 0 ≤ b8
      ·rw [if_pos c6] at H; have n8 : decide (0 ≤ b8) = true := decide_eq_true c6; clear c6; by_cases c7 : (rd l0 (h1)) ≥ (rd l0 b8)
       ·rw [if_pos c7] at H; have t1 : decide ((rd l0 b8) ≤ (rd l0 (h1))) = true := decide_eq_true c7; clear c7; obtain rfl := Option.some.inj H
        have h9 : 0 ≤ ((h1) : Int) := od_
        have j0 : (h1) < (l0.length : Int) := od_
        obtain ⟨n0, q7, o7⟩ := Kd.at_int n7.out (h1) h9 j0; cases q7; replace h9 := eq_true h9; replace j0 := eq_true j0
        have j1 : 0 ≤ (b8 : Int) := od_
        have j2 : b8 < (l0.length : Int) := od_
        obtain ⟨n1, q8, o8⟩ := Kd.at_int n7.out b8 j1 j2; obtain rfl : n0 = n1 := (by injection q8); replace j1 := eq_true j1; replace j2 := eq_true j2; go_wp2
        repeat (go_quiet (fail); try go_wp2)
        go_ret
        exact ⟨by first | rfl | (simp; done) | (simp only [← o6] <;> (first | rfl | simp)) | (simp [*]; done), by repeat (first | exact Drawn0.refl _ | apply Drawn0.step)⟩
       ·rw [if_neg c7] at H; have t1 : decide ((rd l0 b8) ≤ (rd l0 (h1))) = false := decide_eq_false c7; clear c7
        have H' := mk_ H
        clear H
        have h9 : 0 ≤ ((h1) : Int) := od_
        have j0 : (h1) < (l0.length : Int) := od_
        obtain ⟨n0, q7, o7⟩ := Kd.at_int n7.out (h1) h9 j0; cases q7; replace h9 := eq_true h9; replace j0 := eq_true j0
        have j1 : 0 ≤ (b8 : Int) := od_
        have j2 : b8 < (l0.length : Int) := od_
        obtain ⟨n1, q8, o8⟩ := Kd.at_int n7.out b8 j1 j2; obtain rfl : n0 = n1 := (by injection q8); replace j1 := eq_true j1; replace j2 := eq_true j2; go_wp2
        repeat (go_quiet (fail); try go_wp2)
        go_roundg k1
        case measure => have := l5.out; omega
        case rel => exact ⟨(wrap64 (b8 + 1)), rf_, H', ⟨by have := l5.out; omega⟩, by repeat (first | exact Drawn0.refl _ | apply Drawn0.step)⟩
      ·rw [if_neg c6] at H
       exact absurd H (by simp)
     ·rw [if_neg c5] at H
      exact absurd H (by simp)
    ·rw [if_neg c4] at H
     exact absurd H (by simp)
   ·rw [if_neg c2] at H; have D5 : decide (b8 < (l0.length : Int)) = false := decide_eq_false c2; clear c2; obtain rfl := Option.some.inj H; go_wp2
    repeat (go_quiet (fail); try go_wp2)
    go_ret
    exact ⟨by first | rfl | (simp; done) | (simp [*]; done), by repeat (first | exact Drawn0.refl _ | apply Drawn0.step)⟩

/-! ### spec_AirOk: function 39 -/
def spec_AirOk.f (k : Nat) (a0_0 : Int) (l0_1 : List Int) (l0_2 : List Int) : Option (Bool) := (spec_l1In.f a0_0 (-100) 100).bind fun n2 => (if n2 = true then ((spec_l1In.f (l0_1.length : Int) 1 6).bind fun n3 => (if n3 = true then (if (l0_1.length : Int) = (l0_2.length : Int) then ((spec_l1Rise.f k l0_2).bind fun n4 => (if n4 = true then ((spec_l1All.f k l0_2 1 1000).bind fun n5 => (if n5 = true then ((spec_l1All.f k l0_1 (-20) 20).bind fun n6 => (some n6)) else (some false))) else (some false))) else (some false)) else (some false))) else (some false))
theorem spec_AirOk.mono : ∀ a0 a1 a2 k, LeO (spec_AirOk.f k a0 a1 a2) (spec_AirOk.f (k + 1) a0 a1 a2) := by
 intro a0 a1 a2 k
 unfold spec_AirOk.f
 repeat' first
   | (with_reducible exact spec_l1All.mono _ _ _ _)
   | (with_reducible exact spec_l1Rise.mono _ _)
   | (with_reducible exact LeO.refl _)
   | (with_reducible exact LeO.none _)
   | (with_reducible refine LeO.ite ?_ ?_)
   | (with_reducible refine LeO.bind ?_ (fun _ => ?_))
   | exact spec_l1All.mono _ _ _ _
   | exact spec_l1Rise.mono _ _
   | exact LeO.none _
   | refine LeO.ite ?_ ?_
   | refine LeO.bind ?_ (fun _ => ?_)
set_option maxHeartbeats 8000000 in
set_option maxRecDepth 100000 in
theorem spec_AirOk.calls (k : Nat) (a0_0 : Int) (A0_1 : Option Addr) (c0_1 : Nat) (l0_1 : List Int) (A0_2 : Option Addr) (c0_2 : Nat) (l0_2 : List Int) (r : Bool) (w : World) (hr0_1 : Kd.C (Kd.int .i64) w A0_1 l0_1.length l0_1) (hc0_1 : l0_1.length ≤ c0_1) (hr0_2 : Kd.C (Kd.int .i64) w A0_2 l0_2.length l0_2) (hc0_2 : l0_2.length ≤ c0_2) (h : spec_AirOk.f k a0_0 l0_1 l0_2 = some r) :
  Calls Try.prog 39 #[.agg #[.int .i64 a0_0, .slice A0_1 l0_1.length c0_1, .slice A0_2 l0_2.length c0_2]] w fun e w' => e = .returned (.bool r) ∧ Below w.heap.size w w' := by
 have s5 := Try.underlying79
 have b3 := mk_ hr0_1; have b4 := mk_ hc0_1; clear hr0_1 hc0_1; have b1 := mk_ hr0_2; have b2 := mk_ hc0_2; clear hr0_2 hc0_2; have HB := mk_ (Below.refl w.heap.size w)
 have H : ((spec_l1In.f a0_0 (-100) 100).bind fun n2 => (if n2 = true then ((spec_l1In.f (l0_1.length : Int) 1 6).bind fun n3 => (if n3 = true then (if (l0_1.length : Int) = (l0_2.length : Int) then ((spec_l1Rise.f k l0_2).bind fun n4 => (if n4 = true then ((spec_l1All.f k l0_2 1 1000).bind fun n5 => (if n5 = true then ((spec_l1All.f k l0_1 (-20) 20).bind fun n6 => (some n6)) else (some false))) else (some false))) else (some false)) else (some false))) else (some false))) = some r := h
 clear h; replace H := Option.bind_eq_some_iff.mp H; obtain ⟨n2, s6, H⟩ := H; (try dsimp only at H); have A2 := mk_ s6; clear s6; by_cases c3 : n2 = true
 ·subst c3; rw [if_pos rfl] at H
  replace H := Option.bind_eq_some_iff.mp H; obtain ⟨n3, E3, H⟩ := H
  (try dsimp only at H); have A4 := mk_ E3; clear E3
  by_cases c5 : n3 = true
  ·subst c5; rw [if_pos rfl] at H
   by_cases c6 : (l0_1.length : Int) = (l0_2.length : Int)
   ·rw [if_pos c6] at H; have n8 : ((l0_1.length : Int) == (l0_2.length : Int)) = true := beq_iff_eq.mpr c6; have D6 : ((l0_1.length : Int) != (l0_2.length : Int)) = false := bne_eq_false_iff_eq.mpr c6
    have D7 : (l0_1.length == l0_2.length) = true := by first | simpa using c6 | (simp at c6 ⊢; omega)
    clear c6; replace H := Option.bind_eq_some_iff.mp H; obtain ⟨n4, E4, H⟩ := H; (try dsimp only at H); have A7 := mk_ E4; clear E4; by_cases c8 : n4 = true
    ·subst c8; rw [if_pos rfl] at H
     replace H := Option.bind_eq_some_iff.mp H; obtain ⟨n5, E5, H⟩ := H
     (try dsimp only at H); have A9 := mk_ E5; clear E5
     by_cases A1 : n5 = true
     ·subst A1; rw [if_pos rfl] at H
      replace H := Option.bind_eq_some_iff.mp H; obtain ⟨n6, t2, H⟩ := H
      (try dsimp only at H); have E8 := mk_ t2; clear t2
      obtain rfl := Option.some.inj H
      go_enter Try.func39, Try.ntmps39
      go_wp2_with (first | ((with_reducible refine gd_ 1 rfl ?_); (try (refine gate_guard (by rfl) ?_; dsimp only)); refine box_event ?hg (N := 1) ?hd (cs := #[.int .i64 a0_0, .slice A0_1 l0_1.length c0_1, .slice A0_2 l0_2.length c0_2]) (t := 79) ?hr ?_; (case hd => rfl); (case hg => rfl); (case hr => exact hr_); intro h2 hg F2 hbox hb; have a7 := mk_ (hbox); have d1 := gb_ hg HB; replace HB := bp_ HB hb; have h3 := d1; clear hb hbox hg; have A5 := bc0_ a7; have B0 := bc1_ a7; have B1 := bc2_ a7; have B2 := bf_ a7 0; have B3 := bf_ a7 1; have B4 := bf_ a7 2) | ((with_reducible refine gc_ 82 rfl ?_); refine gl_ (some 5) rfl Try.func82 #[.int .i64 a0_0, .int .i64 (-100), .int .i64 100] ?_; (with_reducible refine (spec_l1In.calls a0_0 (-100) 100 true _ A2.out).mono ?_); rintro e w' ⟨rfl, ⟨nd, rfl⟩⟩; refine ⟨_, rfl, ?_⟩) | (go_at_call 82; (with_reducible refine (spec_l1In.calls (l0_1.length : Int) 1 6 true _ A4.out).mono ?_); rintro e w' ⟨rfl, ⟨nd, rfl⟩⟩) | (go_at_call 83; (with_reducible refine (spec_l1Rise.calls k _ _ l0_2 true _ ?a5 ?a6 A7.out).mono ?_); (case a5 => repeat (first | exact (Kd.C_below b1.out (hw_ HB)) | (with_reducible refine Kd.C_alloc ?_ _) | (with_reducible refine Kd.C_drewN ?_ _) | (with_reducible refine Kd.C_drew ?_))); (case a6 => exact b2.out); rintro e w' ⟨rfl, ⟨nd, rfl⟩⟩) | (go_at_call 51; (with_reducible refine (spec_l1All.calls k _ _ l0_2 1 1000 true _ ?a5 ?a6 A9.out).mono ?_); (case a5 => repeat (first | exact (Kd.C_below b1.out (hw_ HB)) | (with_reducible refine Kd.C_alloc ?_ _) | (with_reducible refine Kd.C_drewN ?_ _) | (with_reducible refine Kd.C_drew ?_))); (case a6 => exact b2.out); rintro e w' ⟨rfl, ⟨nd, rfl⟩⟩) | (go_at_call 51; (with_reducible refine (spec_l1All.calls k _ _ l0_1 (-20) 20 n6 _ ?a5 ?a6 E8.out).mono ?_); (case a5 => repeat (first | exact (Kd.C_below b3.out (hw_ HB)) | (with_reducible refine Kd.C_alloc ?_ _) | (with_reducible refine Kd.C_drewN ?_ _) | (with_reducible refine Kd.C_drew ?_))); (case a6 => exact b4.out); rintro e w' ⟨rfl, ⟨nd, rfl⟩⟩))
      go_ret
      exact ⟨re_, hw_ HB⟩
     ·replace A1 := Bool.eq_false_iff.mpr A1; subst A1; rw [if_neg (show ¬ (false = true) by decide)] at H; obtain rfl := Option.some.inj H
      go_enter Try.func39, Try.ntmps39
      go_wp2_with (first | ((with_reducible refine gd_ 1 rfl ?_); (try (refine gate_guard (by rfl) ?_; dsimp only)); refine box_event ?hg (N := 1) ?hd (cs := #[.int .i64 a0_0, .slice A0_1 l0_1.length c0_1, .slice A0_2 l0_2.length c0_2]) (t := 79) ?hr ?_; (case hd => rfl); (case hg => rfl); (case hr => exact hr_); intro h2 hg F3 hbox hb; have a7 := mk_ (hbox); have d1 := gb_ hg HB; replace HB := bp_ HB hb; have h3 := d1; clear hb hbox hg; have B5 := bc0_ a7; have B6 := bc1_ a7; have B7 := bc2_ a7; have B8 := bf_ a7 0; have B9 := bf_ a7 1; have C0 := bf_ a7 2) | ((with_reducible refine gc_ 82 rfl ?_); refine gl_ (some 5) rfl Try.func82 #[.int .i64 a0_0, .int .i64 (-100), .int .i64 100] ?_; (with_reducible refine (spec_l1In.calls a0_0 (-100) 100 true _ A2.out).mono ?_); rintro e w' ⟨rfl, ⟨nd, rfl⟩⟩; refine ⟨_, rfl, ?_⟩) | (go_at_call 82; (with_reducible refine (spec_l1In.calls (l0_1.length : Int) 1 6 true _ A4.out).mono ?_); rintro e w' ⟨rfl, ⟨nd, rfl⟩⟩) | (go_at_call 83; (with_reducible refine (spec_l1Rise.calls k _ _ l0_2 true _ ?a5 ?a6 A7.out).mono ?_); (case a5 => repeat (first | exact (Kd.C_below b1.out (hw_ HB)) | (with_reducible refine Kd.C_alloc ?_ _) | (with_reducible refine Kd.C_drewN ?_ _) | (with_reducible refine Kd.C_drew ?_))); (case a6 => exact b2.out); rintro e w' ⟨rfl, ⟨nd, rfl⟩⟩) | (go_at_call 51; (with_reducible refine (spec_l1All.calls k _ _ l0_2 1 1000 false _ ?a5 ?a6 A9.out).mono ?_); (case a5 => repeat (first | exact (Kd.C_below b1.out (hw_ HB)) | (with_reducible refine Kd.C_alloc ?_ _) | (with_reducible refine Kd.C_drewN ?_ _) | (with_reducible refine Kd.C_drew ?_))); (case a6 => exact b2.out); rintro e w' ⟨rfl, ⟨nd, rfl⟩⟩))
      go_ret
      exact ⟨re_, hw_ HB⟩
    ·replace c8 := Bool.eq_false_iff.mpr c8; subst c8; rw [if_neg (show ¬ (false = true) by decide)] at H; obtain rfl := Option.some.inj H
     go_enter Try.func39, Try.ntmps39
     go_wp2_with (first | ((with_reducible refine gd_ 1 rfl ?_); (try (refine gate_guard (by rfl) ?_; dsimp only)); refine box_event ?hg (N := 1) ?hd (cs := #[.int .i64 a0_0, .slice A0_1 l0_1.length c0_1, .slice A0_2 l0_2.length c0_2]) (t := 79) ?hr ?_; (case hd => rfl); (case hg => rfl); (case hr => exact hr_); intro h2 hg E9 hbox hb; have a7 := mk_ (hbox); have d1 := gb_ hg HB; replace HB := bp_ HB hb; have h3 := d1; clear hb hbox hg; have o9 := bc0_ a7; have p0 := bc1_ a7; have p1 := bc2_ a7; have p2 := bf_ a7 0; have p3 := bf_ a7 1; have p4 := bf_ a7 2) | ((with_reducible refine gc_ 82 rfl ?_); refine gl_ (some 5) rfl Try.func82 #[.int .i64 a0_0, .int .i64 (-100), .int .i64 100] ?_; (with_reducible refine (spec_l1In.calls a0_0 (-100) 100 true _ A2.out).mono ?_); rintro e w' ⟨rfl, ⟨nd, rfl⟩⟩; refine ⟨_, rfl, ?_⟩) | (go_at_call 82; (with_reducible refine (spec_l1In.calls (l0_1.length : Int) 1 6 true _ A4.out).mono ?_); rintro e w' ⟨rfl, ⟨nd, rfl⟩⟩) | (go_at_call 83; (with_reducible refine (spec_l1Rise.calls k _ _ l0_2 false _ ?a5 ?a6 A7.out).mono ?_); (case a5 => repeat (first | exact (Kd.C_below b1.out (hw_ HB)) | (with_reducible refine Kd.C_alloc ?_ _) | (with_reducible refine Kd.C_drewN ?_ _) | (with_reducible refine Kd.C_drew ?_))); (case a6 => exact b2.out); rintro e w' ⟨rfl, ⟨nd, rfl⟩⟩))
     go_ret
     exact ⟨re_, hw_ HB⟩
   ·rw [if_neg c6] at H; have n8 : ((l0_1.length : Int) == (l0_2.length : Int)) = false := beq_eq_false_iff_ne.mpr c6; have D6 : ((l0_1.length : Int) != (l0_2.length : Int)) = true := bne_iff_ne.mpr c6
    have D7 : (l0_1.length == l0_2.length) = false := by first | simpa using c6 | (simp at c6 ⊢; omega)
    obtain rfl := Option.some.inj H
    go_enter Try.func39, Try.ntmps39
    go_wp2_with (first | ((with_reducible refine gd_ 1 rfl ?_); (try (refine gate_guard (by rfl) ?_; dsimp only)); refine box_event ?hg (N := 1) ?hd (cs := #[.int .i64 a0_0, .slice A0_1 l0_1.length c0_1, .slice A0_2 l0_2.length c0_2]) (t := 79) ?hr ?_; (case hd => rfl); (case hg => rfl); (case hr => exact hr_); intro h2 hg y8 hbox hb; have a7 := mk_ (hbox); have d1 := gb_ hg HB; replace HB := bp_ HB hb; have h3 := d1; clear hb hbox hg; have d5 := bc0_ a7; have d6 := bc1_ a7; have d7 := bc2_ a7; have d8 := bf_ a7 0; have d9 := bf_ a7 1; have g0 := bf_ a7 2) | ((with_reducible refine gc_ 82 rfl ?_); refine gl_ (some 5) rfl Try.func82 #[.int .i64 a0_0, .int .i64 (-100), .int .i64 100] ?_; (with_reducible refine (spec_l1In.calls a0_0 (-100) 100 true _ A2.out).mono ?_); rintro e w' ⟨rfl, ⟨nd, rfl⟩⟩; refine ⟨_, rfl, ?_⟩) | (go_at_call 82; (with_reducible refine (spec_l1In.calls (l0_1.length : Int) 1 6 true _ A4.out).mono ?_); rintro e w' ⟨rfl, ⟨nd, rfl⟩⟩))
    go_ret
    exact ⟨re_, hw_ HB⟩
  ·replace c5 := Bool.eq_false_iff.mpr c5; subst c5; rw [if_neg (show ¬ (false = true) by decide)] at H; obtain rfl := Option.some.inj H
   go_enter Try.func39, Try.ntmps39
   go_wp2_with (first | ((with_reducible refine gd_ 1 rfl ?_); (try (refine gate_guard (by rfl) ?_; dsimp only)); refine box_event ?hg (N := 1) ?hd (cs := #[.int .i64 a0_0, .slice A0_1 l0_1.length c0_1, .slice A0_2 l0_2.length c0_2]) (t := 79) ?hr ?_; (case hd => rfl); (case hg => rfl); (case hr => exact hr_); intro h2 hg y9 hbox hb; have a7 := mk_ (hbox); have d1 := gb_ hg HB; replace HB := bp_ HB hb; have h3 := d1; clear hb hbox hg; have p5 := bc0_ a7; have p6 := bc1_ a7; have p7 := bc2_ a7; have p8 := bf_ a7 0; have p9 := bf_ a7 1; have q0 := bf_ a7 2) | ((with_reducible refine gc_ 82 rfl ?_); refine gl_ (some 5) rfl Try.func82 #[.int .i64 a0_0, .int .i64 (-100), .int .i64 100] ?_; (with_reducible refine (spec_l1In.calls a0_0 (-100) 100 true _ A2.out).mono ?_); rintro e w' ⟨rfl, ⟨nd, rfl⟩⟩; refine ⟨_, rfl, ?_⟩) | (go_at_call 82; (with_reducible refine (spec_l1In.calls (l0_1.length : Int) 1 6 false _ A4.out).mono ?_); rintro e w' ⟨rfl, ⟨nd, rfl⟩⟩))
   go_ret
   exact ⟨re_, hw_ HB⟩
 ·replace c3 := Bool.eq_false_iff.mpr c3; subst c3; rw [if_neg (show ¬ (false = true) by decide)] at H; obtain rfl := Option.some.inj H
  go_enter Try.func39, Try.ntmps39
  go_wp2_with (first | ((with_reducible refine gd_ 1 rfl ?_); (try (refine gate_guard (by rfl) ?_; dsimp only)); refine box_event ?hg (N := 1) ?hd (cs := #[.int .i64 a0_0, .slice A0_1 l0_1.length c0_1, .slice A0_2 l0_2.length c0_2]) (t := 79) ?hr ?_; (case hd => rfl); (case hg => rfl); (case hr => exact hr_); intro h2 hg F0 hbox hb; have a7 := mk_ (hbox); have d1 := gb_ hg HB; replace HB := bp_ HB hb; have h3 := d1; clear hb hbox hg; have C1 := bc0_ a7; have C2 := bc1_ a7; have C3 := bc2_ a7; have C4 := bf_ a7 0; have C5 := bf_ a7 1; have C6 := bf_ a7 2) | ((with_reducible refine gc_ 82 rfl ?_); refine gl_ (some 5) rfl Try.func82 #[.int .i64 a0_0, .int .i64 (-100), .int .i64 100] ?_; (with_reducible refine (spec_l1In.calls a0_0 (-100) 100 false _ A2.out).mono ?_); rintro e w' ⟨rfl, ⟨nd, rfl⟩⟩; refine ⟨_, rfl, ?_⟩))
  go_ret
  exact ⟨re_, hw_ HB⟩

/-! ### impl_Warm: function 41 -/
def impl_Warm.f (k : Nat) (a0_0 : Int) (l0_1 : List Int) (l0_2 : List Int) (a1 : Int) : Option (Int × Bool) := (impl_AirOk.f k a0_0 l0_1 l0_2).bind fun l6 => (if l6 = true then (if 0 ≤ (wrap64 ((l0_2.length : Int) - 1)) then (if (wrap64 ((l0_2.length : Int) - 1)) < (l0_2.length : Int) then ((impl_in.f a1 0 (rd l0_2 (wrap64 ((l0_2.length : Int) - 1)))).bind fun d4 => (if d4 = true then ((impl_warm.f k a0_0 l0_1 l0_2 a1).bind fun d2 => (some (d2, true))) else (some (0, false)))) else (none)) else (none)) else (some (0, false)))
theorem impl_Warm.mono : ∀ a0 a1 a2 a3 k, LeO (impl_Warm.f k a0 a1 a2 a3) (impl_Warm.f (k + 1) a0 a1 a2 a3) := by
 intro a0 a1 a2 a3 k
 unfold impl_Warm.f
 repeat' first
   | (with_reducible exact impl_AirOk.mono _ _ _ _)
   | (with_reducible exact impl_warm.mono _ _ _ _ _)
   | (with_reducible exact LeO.refl _)
   | (with_reducible exact LeO.none _)
   | (with_reducible refine LeO.ite ?_ ?_)
   | (with_reducible refine LeO.bind ?_ (fun _ => ?_))
   | exact impl_AirOk.mono _ _ _ _
   | exact impl_warm.mono _ _ _ _ _
   | exact LeO.none _
   | refine LeO.ite ?_ ?_
   | refine LeO.bind ?_ (fun _ => ?_)
set_option maxHeartbeats 8000000 in
set_option maxRecDepth 100000 in
theorem impl_Warm.calls (k : Nat) (a0_0 : Int) (A0_1 : Option Addr) (c0_1 : Nat) (l0_1 : List Int) (A0_2 : Option Addr) (c0_2 : Nat) (l0_2 : List Int) (a1 : Int) (r1 : Int) (r2 : Bool) (w : World) (hr0_1 : Kd.C (Kd.int .i64) w A0_1 l0_1.length l0_1) (hc0_1 : l0_1.length ≤ c0_1) (hr0_2 : Kd.C (Kd.int .i64) w A0_2 l0_2.length l0_2) (hc0_2 : l0_2.length ≤ c0_2) (h : impl_Warm.f k a0_0 l0_1 l0_2 a1 = some (r1, r2)) :
  Calls Try.prog 41 #[.agg #[.int .i64 a0_0, .slice A0_1 l0_1.length c0_1, .slice A0_2 l0_2.length c0_2], .int .i64 a1] w fun e w' => e = .returned (.tuple #[.int .i64 r1, .bool r2]) ∧ Below w.heap.size w w' := by
 have s5 := Try.underlying79
 have b3 := mk_ hr0_1; have b4 := mk_ hc0_1; clear hr0_1 hc0_1; have b1 := mk_ hr0_2; have b2 := mk_ hc0_2; clear hr0_2 hc0_2; have HB := mk_ (Below.refl w.heap.size w)
 have H : ((impl_AirOk.f k a0_0 l0_1 l0_2).bind fun l6 => (if l6 = true then (if 0 ≤ (wrap64 ((l0_2.length : Int) - 1)) then (if (wrap64 ((l0_2.length : Int) - 1)) < (l0_2.length : Int) then ((impl_in.f a1 0 (rd l0_2 (wrap64 ((l0_2.length : Int) - 1)))).bind fun d4 => (if d4 = true then ((impl_warm.f k a0_0 l0_1 l0_2 a1).bind fun d2 => (some (d2, true))) else (some (0, false)))) else (none)) else (none)) else (some (0, false)))) = some (r1, r2) := h
 clear h; replace H := Option.bind_eq_some_iff.mp H; obtain ⟨l6, E6, H⟩ := H
 replace H : (if l6 = true then (if 0 ≤ (wrap64 ((l0_2.length : Int) - 1)) then (if (wrap64 ((l0_2.length : Int) - 1)) < (l0_2.length : Int) then ((impl_in.f a1 0 (rd l0_2 (wrap64 ((l0_2.length : Int) - 1)))).bind fun d4 => (if d4 = true then ((impl_warm.f k a0_0 l0_1 l0_2 a1).bind fun d2 => (some (d2, true))) else (some (0, false)))) else (none)) else (none)) else (some (0, false))) = some (r1, r2) := H
 have A3 := mk_ E6; clear E6; by_cases c4 : l6 = true
 ·subst c4
  have H1 : (if 0 ≤ (wrap64 ((l0_2.length : Int) - 1)) then (if (wrap64 ((l0_2.length : Int) - 1)) < (l0_2.length : Int) then ((impl_in.f a1 0 (rd l0_2 (wrap64 ((l0_2.length : Int) - 1)))).bind fun d4 => (if d4 = true then ((impl_warm.f k a0_0 l0_1 l0_2 a1).bind fun d2 => (some (d2, true))) else (some (0, false)))) else (none)) else (none)) = some (r1, r2) := by rw [if_pos rfl] at H; exact H
  clear H
  have H := H1
  clear H1
  obtain ⟨h5, l7⟩ : ∃ j_ : Int, (wrap64 ((l0_2.length : Int) - 1)) = j_ := ⟨_, rfl⟩
  replace H : (if 0 ≤ (h5) then (if (h5) < (l0_2.length : Int) then ((impl_in.f a1 0 (rd l0_2 (h5))).bind fun d4 => (if d4 = true then ((impl_warm.f k a0_0 l0_1 l0_2 a1).bind fun d2 => (some (d2, true))) else (some (0, false)))) else (none)) else (none)) = some (r1, r2) := by first | (rw [l7] at H; exact H) | (simp only [l7] at H ⊢; exact H)
  (try rw [l7] at A3)
  have hji5w : (IntKind.i64.wrap ((l0_2.length : Int) - 1)) = h5 := (i64_w _).trans l7
  by_cases c6 : 0 ≤ (h5)
  ·rw [if_pos c6] at H; have n8 : decide (0 ≤ (h5)) = true := decide_eq_true c6; clear c6; by_cases c7 : (h5) < (l0_2.length : Int)
   ·rw [if_pos c7] at H; have t1 : decide ((h5) < (l0_2.length : Int)) = true := decide_eq_true c7; clear c7; replace H := Option.bind_eq_some_iff.mp H; obtain ⟨d4, E7, H⟩ := H
    replace H : (if d4 = true then ((impl_warm.f k a0_0 l0_1 l0_2 a1).bind fun d2 => (some (d2, true))) else (some (0, false))) = some (r1, r2) := H
    have A8 := mk_ E7; clear E7; by_cases c9 : d4 = true
    ·subst c9
     have H1 : ((impl_warm.f k a0_0 l0_1 l0_2 a1).bind fun d2 => (some (d2, true))) = some (r1, r2) := by rw [if_pos rfl] at H; exact H
     clear H
     have H := H1
     clear H1; replace H := Option.bind_eq_some_iff.mp H; obtain ⟨d2, t3, H⟩ := H
     replace H : (some (d2, true)) = some (r1, r2) := H
     have F1 := mk_ t3; clear t3
     simp only [Option.some.injEq, Prod.mk.injEq] at H
     obtain ⟨rfl, rfl⟩ := H
     go_enter Try.func41, Try.ntmps41
     go_wp2_with (first | ((with_reducible refine gd_ 2 rfl ?_); (try (refine gate_guard (by rfl) ?_; dsimp only)); refine box_event ?hg (N := 2) ?hd (cs := #[.int .i64 a0_0, .slice A0_1 l0_1.length c0_1, .slice A0_2 l0_2.length c0_2]) (t := 79) ?hr ?_; (case hd => rfl); (case hg => rfl); (case hr => exact hr_); intro q2 hg F4 hbox hb; have a8 := mk_ (hbox); have h4 := gb_ hg HB; replace HB := bp_ HB hb; have q3 := h4; clear hb hbox hg; have C7 := bc0_ a8; have C8 := bc1_ a8; have C9 := bc2_ a8; have D0 := bf_ a8 0; have D1 := bf_ a8 1; have D2 := bf_ a8 2) | ((with_reducible refine gc_ 40 rfl ?_); refine gl_ (some 7) rfl Try.func40 #[.agg #[.int .i64 a0_0, .slice A0_1 l0_1.length c0_1, .slice A0_2 l0_2.length c0_2]] ?_; (with_reducible refine (impl_AirOk.calls k a0_0 _ _ l0_1 _ _ l0_2 true _ ?a5 ?a6 ?a9 ?b0 A3.out).mono ?_); (case a5 => exact cw_ (Kd.C_below b3.out HB.out)); (case a6 => exact b4.out); (case a9 => exact cw_ (Kd.C_below b1.out HB.out)); (case b0 => exact b2.out); rintro e F5 ⟨rfl, hb⟩; refine ⟨_, rfl, ?_⟩; replace a8 := bl_ a8 hb; replace HB := bp_ HB hb; (try clear hb); (try clear h6); (try clear hk); (try clear hi); have n9 := bc0_ a8; have o0 := bc1_ a8; have o1 := bc2_ a8; have o2 := bf_ a8 0; have o3 := bf_ a8 1; have o4 := bf_ a8 2; have j3 : 0 ≤ ((h5) : Int) := od_; have j4 : (h5) < (l0_2.length : Int) := od_; obtain ⟨q4, q9, c1⟩ := Kd.at_int b1.out (h5) j3 j4; cases q9; replace c1 := (HB.out.cell (World.block_lt_of_cell? w _ c1)).trans c1; replace j3 := eq_true j3; replace j4 := eq_true j4) | (go_at_call 65; (with_reducible refine (impl_in.calls a1 0 (rd l0_2 (h5)) true _ A8.out).mono ?_); rintro e w' ⟨rfl, ⟨nd, rfl⟩⟩) | ((with_reducible refine gc_ 81 rfl ?_); refine gl_ (some 24) rfl Try.func81 #[.agg #[.int .i64 a0_0, .slice A0_1 l0_1.length c0_1, .slice (some q4) l0_2.length c0_2], .int .i64 a1] ?_; (with_reducible refine (impl_warm.calls k a0_0 _ _ l0_1 _ _ l0_2 a1 d2 _ ?a5 ?a6 ?a9 ?b0 F1.out).mono ?_); (case a5 => repeat (first | exact (Kd.C_below b3.out (hw_ HB)) | (with_reducible refine Kd.C_alloc ?_ _) | (with_reducible refine Kd.C_drewN ?_ _) | (with_reducible refine Kd.C_drew ?_))); (case a6 => exact b4.out); (case a9 => repeat (first | exact (Kd.C_below b1.out (hw_ HB)) | (with_reducible refine Kd.C_alloc ?_ _) | (with_reducible refine Kd.C_drewN ?_ _) | (with_reducible refine Kd.C_drew ?_))); (case b0 => exact b2.out); rintro e D4 ⟨rfl, hb⟩; refine ⟨_, rfl, ?_⟩; replace a8 := bk_ a8 hb; replace HB := hk_ HB hb; (try clear hb); (try clear h6); (try clear hk); (try clear hi)))
     go_ret2
     exact ⟨by first | rfl | (simp [errW_none, errW_some] <;> rfl) | (simp only [← l7]; first | rfl | (simp [errW_none, errW_some] <;> rfl)) | (simp [*, errW_none, errW_some] <;> rfl), hw_ HB⟩
    ·replace c9 := Bool.eq_false_iff.mpr c9; subst c9
     have H1 : (some (0, false)) = some (r1, r2) := by rw [if_neg (show ¬ (false = true) by decide)] at H; exact H
     clear H
     have H := H1
     clear H1
     simp only [Option.some.injEq, Prod.mk.injEq] at H
     obtain ⟨rfl, rfl⟩ := H
     go_enter Try.func41, Try.ntmps41
     go_wp2_with (first | ((with_reducible refine gd_ 2 rfl ?_); (try (refine gate_guard (by rfl) ?_; dsimp only)); refine box_event ?hg (N := 2) ?hd (cs := #[.int .i64 a0_0, .slice A0_1 l0_1.length c0_1, .slice A0_2 l0_2.length c0_2]) (t := 79) ?hr ?_; (case hd => rfl); (case hg => rfl); (case hr => exact hr_); intro q2 hg E9 hbox hb; have a8 := mk_ (hbox); have h4 := gb_ hg HB; replace HB := bp_ HB hb; have q3 := h4; clear hb hbox hg; have o9 := bc0_ a8; have p0 := bc1_ a8; have p1 := bc2_ a8; have p2 := bf_ a8 0; have p3 := bf_ a8 1; have p4 := bf_ a8 2) | ((with_reducible refine gc_ 40 rfl ?_); refine gl_ (some 7) rfl Try.func40 #[.agg #[.int .i64 a0_0, .slice A0_1 l0_1.length c0_1, .slice A0_2 l0_2.length c0_2]] ?_; (with_reducible refine (impl_AirOk.calls k a0_0 _ _ l0_1 _ _ l0_2 true _ ?a5 ?a6 ?a9 ?b0 A3.out).mono ?_); (case a5 => exact cw_ (Kd.C_below b3.out HB.out)); (case a6 => exact b4.out); (case a9 => exact cw_ (Kd.C_below b1.out HB.out)); (case b0 => exact b2.out); rintro e y8 ⟨rfl, hb⟩; refine ⟨_, rfl, ?_⟩; replace a8 := bl_ a8 hb; replace HB := bp_ HB hb; (try clear hb); (try clear h6); (try clear hk); (try clear hi); have d5 := bc0_ a8; have d6 := bc1_ a8; have d7 := bc2_ a8; have d8 := bf_ a8 0; have d9 := bf_ a8 1; have g0 := bf_ a8 2; have j3 : 0 ≤ ((h5) : Int) := od_; have j4 : (h5) < (l0_2.length : Int) := od_; obtain ⟨q4, q9, c1⟩ := Kd.at_int b1.out (h5) j3 j4; cases q9; replace c1 := (HB.out.cell (World.block_lt_of_cell? w _ c1)).trans c1; replace j3 := eq_true j3; replace j4 := eq_true j4) | (go_at_call 65; (with_reducible refine (impl_in.calls a1 0 (rd l0_2 (h5)) false _ A8.out).mono ?_); rintro e w' ⟨rfl, ⟨nd, rfl⟩⟩))
     go_ret2
     exact ⟨by first | rfl | (simp [errW_none, errW_some] <;> rfl) | (simp only [← l7]; first | rfl | (simp [errW_none, errW_some] <;> rfl)) | (simp [*, errW_none, errW_some] <;> rfl), hw_ HB⟩
   ·rw [if_neg c7] at H
    exact absurd H (by simp)
  ·rw [if_neg c6] at H
   exact absurd H (by simp)
 ·replace c4 := Bool.eq_false_iff.mpr c4; subst c4
  have H1 : (some (0, false)) = some (r1, r2) := by rw [if_neg (show ¬ (false = true) by decide)] at H; exact H
  clear H
  have H := H1
  clear H1
  simp only [Option.some.injEq, Prod.mk.injEq] at H
  obtain ⟨rfl, rfl⟩ := H
  go_enter Try.func41, Try.ntmps41
  go_wp2_with (first | ((with_reducible refine gd_ 2 rfl ?_); (try (refine gate_guard (by rfl) ?_; dsimp only)); refine box_event ?hg (N := 2) ?hd (cs := #[.int .i64 a0_0, .slice A0_1 l0_1.length c0_1, .slice A0_2 l0_2.length c0_2]) (t := 79) ?hr ?_; (case hd => rfl); (case hg => rfl); (case hr => exact hr_); intro q2 hg y9 hbox hb; have a8 := mk_ (hbox); have h4 := gb_ hg HB; replace HB := bp_ HB hb; have q3 := h4; clear hb hbox hg; have p5 := bc0_ a8; have p6 := bc1_ a8; have p7 := bc2_ a8; have p8 := bf_ a8 0; have p9 := bf_ a8 1; have q0 := bf_ a8 2) | ((with_reducible refine gc_ 40 rfl ?_); refine gl_ (some 7) rfl Try.func40 #[.agg #[.int .i64 a0_0, .slice A0_1 l0_1.length c0_1, .slice A0_2 l0_2.length c0_2]] ?_; (with_reducible refine (impl_AirOk.calls k a0_0 _ _ l0_1 _ _ l0_2 false _ ?a5 ?a6 ?a9 ?b0 A3.out).mono ?_); (case a5 => exact cw_ (Kd.C_below b3.out HB.out)); (case a6 => exact b4.out); (case a9 => exact cw_ (Kd.C_below b1.out HB.out)); (case b0 => exact b2.out); rintro e F0 ⟨rfl, hb⟩; refine ⟨_, rfl, ?_⟩; replace a8 := bl_ a8 hb; replace HB := bp_ HB hb; (try clear hb); (try clear h6); (try clear hk); (try clear hi)))
  go_ret2
  exact ⟨re_, hw_ HB⟩

/-! ### laws_within: function 42 -/
def laws_within.l0 : Nat → List Int → Int → Int → Option (Bool)
 | 0, _, _, _ => none
 | k + 1, x0, x1, x5 => if x5 < (x0.length : Int) then (if 0 ≤ x5 then (if (rd x0 x5) = x1 then (some true) else (laws_within.l0 k x0 x1 (wrap64 (x5 + 1)))) else (none)) else (some false)
def laws_within.f (k : Nat) (l0 : List Int) (a1 : Int) : Option (Bool) := laws_within.l0 k l0 a1 0
theorem laws_within.mono_l : ∀ k, (∀ y0 y1 y2, LeO (laws_within.l0 k y0 y1 y2) (laws_within.l0 (k + 1) y0 y1 y2))
 | 0 => fun _ _ _ r h => by simp [laws_within.l0] at h
 | k + 1 => by
  have g1 := laws_within.mono_l k
  ·intro y0 y1 y2
   unfold laws_within.l0
   repeat' first
   | (with_reducible exact g1 _ _ _)
   | (with_reducible exact LeO.refl _)
   | (with_reducible exact LeO.none _)
   | (with_reducible refine LeO.ite ?_ ?_)
   | (with_reducible refine LeO.bind ?_ (fun _ => ?_))
   | exact g1 _ _ _
   | exact LeO.none _
   | refine LeO.ite ?_ ?_
   | refine LeO.bind ?_ (fun _ => ?_)
theorem laws_within.mono : ∀ a0 a1 k, LeO (laws_within.f k a0 a1) (laws_within.f (k + 1) a0 a1) := by
 intro a0 a1 k
 have g1 := laws_within.mono_l k
 unfold laws_within.f
 repeat' first
   | (with_reducible exact g1 _ _ _)
   | (with_reducible exact LeO.refl _)
   | (with_reducible exact LeO.none _)
   | (with_reducible refine LeO.ite ?_ ?_)
   | (with_reducible refine LeO.bind ?_ (fun _ => ?_))
   | exact g1 _ _ _
   | exact LeO.none _
   | refine LeO.ite ?_ ?_
   | refine LeO.bind ?_ (fun _ => ?_)
set_option maxHeartbeats 8000000 in
set_option maxRecDepth 100000 in
theorem laws_within.calls (k : Nat) (A0 : Option Addr) (c0 : Nat) (l0 : List Int) (a1 : Int) (r : Bool) (w : World) (hr0 : Kd.C (Kd.int .i64) w A0 l0.length l0) (hc0 : l0.length ≤ c0) (h : laws_within.f k l0 a1 = some r) :
  Calls Try.prog 42 #[.slice A0 l0.length c0, .int .i64 a1] w fun e w' => e = .returned (.bool r) ∧ Drawn0 w w' := by
 have n7 := mk_ hr0; have E1 := mk_ hc0; clear hr0 hc0
 have H : (laws_within.l0 k l0 a1 0) = some r := h
 clear h
 have H' := mk_ H
 clear H
 go_enter Try.func42, Try.ntmps42
 go_wp2
 go_loopg [5] k (fun kq v5 w' => ∃ (b7 : Int), v5 = .int .i64 b7 ∧ Aside0 (laws_within.l0 kq l0 a1 b7 = some r) ∧ Aside0 (kq ≤ k) ∧ Drawn0 w w')
 case atStart => exact ⟨(0), rf_, H', ⟨Nat.le_refl _⟩, by repeat (first | exact Drawn0.refl _ | apply Drawn0.step)⟩
 case round =>
  clear H'
  obtain ⟨b7, rfl, HA, l5, ⟨m1, rfl⟩⟩ := hrel
  cases gk with
  | zero => exact absurd HA.out (by simp [laws_within.l0])
  | succ k1 =>
   have H := HA.out; clear HA
   simp only [laws_within.l0] at H
   by_cases c3 : b7 < (l0.length : Int)
   ·rw [if_pos c3] at H; have D8 : decide (b7 < (l0.length : Int)) = true := decide_eq_true c3; clear c3; by_cases c4 : 0 ≤ b7
    ·rw [if_pos c4] at H; have m9 : decide (0 ≤ b7) = true := decide_eq_true c4; clear c4; by_cases c5 : (rd l0 b7) = a1
     ·rw [if_pos c5] at H; have l9 : ((rd l0 b7) == a1) = true := beq_iff_eq.mpr c5; have D9 : ((rd l0 b7) != a1) = false := bne_eq_false_iff_eq.mpr c5; clear c5; obtain rfl := Option.some.inj H
      have j5 : 0 ≤ (b7 : Int) := od_
      have j6 : b7 < (l0.length : Int) := od_
      obtain ⟨t4, s0, q1⟩ := Kd.at_int n7.out b7 j5 j6; cases s0; replace j5 := eq_true j5; replace j6 := eq_true j6; go_wp2; go_ret
      exact ⟨by first | rfl | (simp; done) | (simp [*]; done), by repeat (first | exact Drawn0.refl _ | apply Drawn0.step)⟩
     ·rw [if_neg c5] at H; have l9 : ((rd l0 b7) == a1) = false := beq_eq_false_iff_ne.mpr c5; have D9 : ((rd l0 b7) != a1) = true := bne_iff_ne.mpr c5
      have H' := mk_ H
      clear H
      have j5 : 0 ≤ (b7 : Int) := od_
      have j6 : b7 < (l0.length : Int) := od_
      obtain ⟨t4, s0, q1⟩ := Kd.at_int n7.out b7 j5 j6; cases s0; replace j5 := eq_true j5; replace j6 := eq_true j6; go_wp2; go_roundg k1
      case measure => have := l5.out; omega
      case rel => exact ⟨(wrap64 (b7 + 1)), rf_, H', ⟨by have := l5.out; omega⟩, by repeat (first | exact Drawn0.refl _ | apply Drawn0.step)⟩
    ·rw [if_neg c4] at H
     exact absurd H (by simp)
   ·rw [if_neg c3] at H; have D8 : decide (b7 < (l0.length : Int)) = false := decide_eq_false c3; clear c3; obtain rfl := Option.some.inj H; go_wp2; go_ret
    exact ⟨by first | rfl | (simp; done) | (simp [*]; done), by repeat (first | exact Drawn0.refl _ | apply Drawn0.step)⟩

end Go.Proofs.Ytkginilghcepbaa.QFnAir
-- squeezed
