/- Lean functions that tell what the Go functions used by one law answer, and for each a proof that the Go code comes to just these answers; no condition. Printed by this session's own program over the kit's printer. -/
import Derived.Test.YtkginilghcepbaaWSq
import Derived.Test.YtkginilghcepbaaQFnMomentsx0
import Derived.Test.YtkginilghcepbaaQFnMomentsx2
import Derived.Test.YtkginilghcepbaaQFnMomentsx3
namespace Go.Proofs.Ytkginilghcepbaa.QFnMoments
open Go.RowKit Go.Proofs.YtkginilghcepbaaW.PrintWords Go.Proofs.YtkginilghcepbaaW.PrintLast Go.Proofs.YtkginilghcepbaaW.PrintMore
attribute [local go_sem] max2_int min2_int max_two min_two max_three min_three max_four min_four   -- for this text's walks alone
attribute [local go_sem high] go_eql go_neq go_lss go_leq go_gtr go_geq go_store   -- for this text's walks alone
set_option linter.unusedVariables false
set_option linter.unusedSimpArgs false

/-! ### impl_Inside: function 31 -/
def impl_Inside.f (k : Nat) (l0_0 : List Int) (l0_1 : List Int) (l0_2 : List Int) (a1_0 : Int) (a1_1 : Int) : Option (Bool) := (impl_EnvelopeOk.f k l0_0 l0_1 l0_2).bind fun b5 => (if b5 = true then ((impl_inside.f k l0_0 l0_1 l0_2 a1_0 a1_1).bind fun b6 => (some b6)) else (some false))
theorem impl_Inside.mono : ∀ a0 a1 a2 a3 a4 k, LeO (impl_Inside.f k a0 a1 a2 a3 a4) (impl_Inside.f (k + 1) a0 a1 a2 a3 a4) := by
 intro a0 a1 a2 a3 a4 k
 unfold impl_Inside.f
 repeat' first
   | (with_reducible exact impl_EnvelopeOk.mono _ _ _ _)
   | (with_reducible exact impl_inside.mono _ _ _ _ _ _)
   | (with_reducible exact LeO.refl _)
   | (with_reducible exact LeO.none _)
   | (with_reducible refine LeO.ite ?_ ?_)
   | (with_reducible refine LeO.bind ?_ (fun _ => ?_))
   | exact impl_EnvelopeOk.mono _ _ _ _
   | exact impl_inside.mono _ _ _ _ _ _
   | exact LeO.none _
   | refine LeO.ite ?_ ?_
   | refine LeO.bind ?_ (fun _ => ?_)
set_option maxHeartbeats 8000000 in
set_option maxRecDepth 100000 in
theorem impl_Inside.calls (k : Nat) (A0_0 : Option Addr) (c0_0 : Nat) (l0_0 : List Int) (A0_1 : Option Addr) (c0_1 : Nat) (l0_1 : List Int) (A0_2 : Option Addr) (c0_2 : Nat) (l0_2 : List Int) (a1_0 : Int) (a1_1 : Int) (r : Bool) (w : World) (hr0_0 : Kd.C (Kd.int .i64) w A0_0 l0_0.length l0_0) (hc0_0 : l0_0.length ≤ c0_0) (hr0_1 : Kd.C (Kd.int .i64) w A0_1 l0_1.length l0_1) (hc0_1 : l0_1.length ≤ c0_1) (hr0_2 : Kd.C (Kd.int .i64) w A0_2 l0_2.length l0_2) (hc0_2 : l0_2.length ≤ c0_2) (h : impl_Inside.f k l0_0 l0_1 l0_2 a1_0 a1_1 = some r) :
  Calls Try.prog 31 #[.agg #[.slice A0_0 l0_0.length c0_0, .slice A0_1 l0_1.length c0_1, .slice A0_2 l0_2.length c0_2], .agg #[.int .i64 a1_0, .int .i64 a1_1]] w fun e w' => e = .returned (.bool r) ∧ Below w.heap.size w w' := by
 have h9 := Try.underlying70
 have j0 := Try.underlying66
 have b7 := mk_ hr0_0; have b8 := mk_ hc0_0; clear hr0_0 hc0_0; have b9 := mk_ hr0_1; have c0 := mk_ hc0_1; clear hr0_1 hc0_1; have c1 := mk_ hr0_2; have c2 := mk_ hc0_2; clear hr0_2 hc0_2; have HB := mk_ (Below.refl w.heap.size w)
 have H : ((impl_EnvelopeOk.f k l0_0 l0_1 l0_2).bind fun b5 => (if b5 = true then ((impl_inside.f k l0_0 l0_1 l0_2 a1_0 a1_1).bind fun b6 => (some b6)) else (some false))) = some r := h
 clear h; replace H := Option.bind_eq_some_iff.mp H; obtain ⟨b5, h4, H⟩ := H; (try dsimp only at H); have A3 := mk_ h4; clear h4; by_cases c4 : b5 = true
 ·subst c4; rw [if_pos rfl] at H
  replace H := Option.bind_eq_some_iff.mp H; obtain ⟨b6, h5, H⟩ := H
  (try dsimp only at H); have A5 := mk_ h5; clear h5
  obtain rfl := Option.some.inj H
  go_enter Try.func31, Try.ntmps31
  go_wp2_with (first | ((with_reducible refine gd_ 2 rfl ?_); refine box_event ?hg (N := 2) ?hd (cs := #[.slice A0_0 l0_0.length c0_0, .slice A0_1 l0_1.length c0_1, .slice A0_2 l0_2.length c0_2]) (t := 70) ?hr ?_; (case hd => rfl); (case hg => rfl); (case hr => exact hr_); intro c6 hg w6 hbox hb; have a5 := mk_ (hbox); have c3 := gb_ hg HB; replace HB := bp_ HB hb; have c7 := c3; clear hb hbox hg) | ((with_reducible refine gd_ 3 rfl ?_); refine box_event ?hg (N := 3) ?hd (cs := #[.int .i64 a1_0, .int .i64 a1_1]) (t := 66) ?hr ?_; (case hd => rfl); (case hg => rfl); (case hr => exact hr_); intro c8 hg w7 hbox hb; have a7 := mk_ (hbox); have c5 := gb_ hg HB; replace HB := bp_ HB hb; have c9 := c5; have a6 := nb_ hg a5; replace a5 := bl_ a5 hb; have a8 := ns_ a6; clear hb hbox hg; have j1 := a6.out; have j2 := a8.out; have g6 := bc0_ a5; have g7 := bc1_ a5; have g8 := bc2_ a5; have g9 := bf_ a5 0; have h2 := bf_ a5 1; have h3 := bf_ a5 2) | ((with_reducible refine gc_ 32 rfl ?_); refine gl_ (some 6) rfl Try.func32 #[.agg #[.slice A0_0 l0_0.length c0_0, .slice A0_1 l0_1.length c0_1, .slice A0_2 l0_2.length c0_2]] ?_; (with_reducible refine (impl_EnvelopeOk.calls k _ _ l0_0 _ _ l0_1 _ _ l0_2 true _ ?a9 ?b0 ?b1 ?b2 ?b3 ?b4 A3.out).mono ?_); (case a9 => exact cw_ (Kd.C_below b7.out HB.out)); (case b0 => exact b8.out); (case b1 => exact cw_ (Kd.C_below b9.out HB.out)); (case b2 => exact c0.out); (case b3 => exact cw_ (Kd.C_below c1.out HB.out)); (case b4 => exact c2.out); rintro e j3 ⟨rfl, hb⟩; refine ⟨_, rfl, ?_⟩; replace a5 := bl_ a5 hb; replace a7 := bl_ a7 hb; replace HB := bp_ HB hb; (try clear hb); (try clear h6); (try clear hk); (try clear hi); have d0 := bc0_ a5; have d1 := bc1_ a5; have d2 := bc2_ a5; have d3 := bf_ a5 0; have d4 := bf_ a5 1; have d5 := bf_ a5 2; have d6 := bc0_ a7; have d7 := bc1_ a7; have d8 := bf_ a7 0; have d9 := bf_ a7 1) | (go_at_call 76; (with_reducible refine (impl_inside.calls k _ _ l0_0 _ _ l0_1 _ _ l0_2 a1_0 a1_1 b6 _ ?a9 ?b0 ?b1 ?b2 ?b3 ?b4 A5.out).mono ?_); (case a9 => exact cw_ (Kd.C_below b7.out HB.out)); (case b0 => exact b8.out); (case b1 => exact cw_ (Kd.C_below b9.out HB.out)); (case b2 => exact c0.out); (case b3 => exact cw_ (Kd.C_below c1.out HB.out)); (case b4 => exact c2.out); rintro e j4 ⟨rfl, hb⟩; replace a5 := bl_ a5 hb; replace a7 := bl_ a7 hb; replace HB := bp_ HB hb; (try clear hb); (try clear h6); (try clear hk); (try clear hi)))
  go_ret
  exact ⟨re_, hw_ HB⟩
 ·replace c4 := Bool.eq_false_iff.mpr c4; subst c4; rw [if_neg (show ¬ (false = true) by decide)] at H; obtain rfl := Option.some.inj H
  go_enter Try.func31, Try.ntmps31
  go_wp2_with (first | ((with_reducible refine gd_ 2 rfl ?_); refine box_event ?hg (N := 2) ?hd (cs := #[.slice A0_0 l0_0.length c0_0, .slice A0_1 l0_1.length c0_1, .slice A0_2 l0_2.length c0_2]) (t := 70) ?hr ?_; (case hd => rfl); (case hg => rfl); (case hr => exact hr_); intro c6 hg j5 hbox hb; have a5 := mk_ (hbox); have c3 := gb_ hg HB; replace HB := bp_ HB hb; have c7 := c3; clear hb hbox hg) | ((with_reducible refine gd_ 3 rfl ?_); refine box_event ?hg (N := 3) ?hd (cs := #[.int .i64 a1_0, .int .i64 a1_1]) (t := 66) ?hr ?_; (case hd => rfl); (case hg => rfl); (case hr => exact hr_); intro c8 hg j6 hbox hb; have a7 := mk_ (hbox); have c5 := gb_ hg HB; replace HB := bp_ HB hb; have c9 := c5; have a6 := nb_ hg a5; replace a5 := bl_ a5 hb; have a8 := ns_ a6; clear hb hbox hg; have h7 := a6.out; have h8 := a8.out; have g0 := bc0_ a5; have g1 := bc1_ a5; have g2 := bc2_ a5; have g3 := bf_ a5 0; have g4 := bf_ a5 1; have g5 := bf_ a5 2) | ((with_reducible refine gc_ 32 rfl ?_); refine gl_ (some 6) rfl Try.func32 #[.agg #[.slice A0_0 l0_0.length c0_0, .slice A0_1 l0_1.length c0_1, .slice A0_2 l0_2.length c0_2]] ?_; (with_reducible refine (impl_EnvelopeOk.calls k _ _ l0_0 _ _ l0_1 _ _ l0_2 false _ ?a9 ?b0 ?b1 ?b2 ?b3 ?b4 A3.out).mono ?_); (case a9 => exact cw_ (Kd.C_below b7.out HB.out)); (case b0 => exact b8.out); (case b1 => exact cw_ (Kd.C_below b9.out HB.out)); (case b2 => exact c0.out); (case b3 => exact cw_ (Kd.C_below c1.out HB.out)); (case b4 => exact c2.out); rintro e j7 ⟨rfl, hb⟩; refine ⟨_, rfl, ?_⟩; replace a5 := bl_ a5 hb; replace a7 := bl_ a7 hb; replace HB := bp_ HB hb; (try clear hb); (try clear h6); (try clear hk); (try clear hi)))
  go_ret
  exact ⟨re_, hw_ HB⟩

end Go.Proofs.Ytkginilghcepbaa.QFnMoments
-- squeezed
