/- Lean functions that tell what the Go functions used by one law answer, and for each a proof that the Go code comes to just these answers; no condition. Printed by this session's own program over the kit's printer. -/
import Derived.Test.YtkginilghcepbaaWSq
import Derived.Test.YtkginilghcepbaaQFnMeansx0
import Derived.Test.YtkginilghcepbaaQFnMeansx1
import Derived.Test.YtkginilghcepbaaQFnMeansx2
namespace Go.Proofs.Ytkginilghcepbaa.QFnMeans
open Go.RowKit Go.Proofs.YtkginilghcepbaaW.PrintWords Go.Proofs.YtkginilghcepbaaW.PrintLast Go.Proofs.YtkginilghcepbaaW.PrintMore
attribute [local go_sem] max2_int min2_int max_two min_two max_three min_three max_four min_four   -- for this text's walks alone
attribute [local go_sem high] go_eql go_neq go_lss go_leq go_gtr go_geq go_store   -- for this text's walks alone
set_option linter.unusedVariables false
set_option linter.unusedSimpArgs false

/-! ### laws_FnMeans: function 6 -/
mutual
def laws_FnMeans.l0 : Nat → List Int → Fl → Fl → List (Fl) → Int → Int → Option (Bool)
 | 0, _, _, _, _, _, _ => none
 | k + 1, x0, x3, x4, x5, x6, x7 => (laws_at.f x0 1).bind fun d1 => (if x7 < (wrap64 (1 + (Int.tmod d1 20))) then ((laws_at.f x0 (wrap64 (x7 + 2))).bind fun c7 => (if (Int.tmod c7 3) = 0 then (if x5.length < 17592186044416 then (laws_FnMeans.j1 k x0 x3 x4 (x5 ++ [(fop .quo .f64 x3 x3)]) x6 x7) else (none)) else (if x5.length < 17592186044416 then (laws_FnMeans.j1 k x0 x3 x4 (x5 ++ [x4]) (wrap64 (x6 + 1)) x7) else (none)))) else ((impl_MeanOf.f k x5).bind fun c2 => ((impl_Smooth.f k x5 (cn .f64 4607182418800017408)).bind fun d9 => (if d9.2 = true then (if (d9.1.length : Int) = (x5.length : Int) then (if (c2.2.2 != (decide (x6 > 0))) = true then (laws_FnMeans.j2 k x4 x5 c2.1 c2.2.2 d9.1 true) else (laws_FnMeans.j2 k x4 x5 c2.1 c2.2.2 d9.1 (c2.2.1 != x6))) else (laws_FnMeans.j2 k x4 x5 c2.1 c2.2.2 d9.1 true)) else (laws_FnMeans.j2 k x4 x5 c2.1 c2.2.2 d9.1 true)))))
def laws_FnMeans.j1 : Nat → List Int → Fl → Fl → List (Fl) → Int → Int → Option (Bool)
 | 0, _, _, _, _, _, _ => none
 | k + 1, x0, x3, x4, x5, x6, x7 => laws_FnMeans.l0 k x0 x3 x4 x5 x6 (wrap64 (x7 + 1))
def laws_FnMeans.j2 : Nat → Fl → List (Fl) → Fl → Bool → List (Fl) → Bool → Option (Bool)
 | 0, _, _, _, _, _, _ => none
 | k + 1, x4, x5, x8, l5, l2, E0 => if E0 = true then (some false) else (laws_FnMeans.l1 k x4 x5 x8 l5 l2 false 0)
def laws_FnMeans.l1 : Nat → Fl → List (Fl) → Fl → Bool → List (Fl) → Bool → Int → Option (Bool)
 | 0, _, _, _, _, _, _, _ => none
 | k + 1, x4, x5, x8, l5, l2, o2, g5 => if g5 < (x5.length : Int) then (if o2 = true then (laws_FnMeans.j4 k x4 x5 x8 l5 l2 true g5) else (if 0 ≤ g5 then ((some (rdf .f64 x5 g5 : Fl)).bind fun fr150_0 => (laws_FnMeans.j4 k x4 x5 x8 l5 l2 (fcmp .eql .f64 fr150_0 fr150_0) g5)) else (none))) else ((impl_FirstOver.f k (([(⟨(cn .f64 4607182418800017408), (cn .f64 0), (cn .f64 0), (cn .f64 0)⟩ : S60), (⟨(cn .f64 4617315517961601024), (cn .f64 0), (cn .f64 0), (cn .f64 0)⟩ : S60)] : List (S60))) (cn .f64 4611686018427387904)).bind fun d2 => (if l5 = true then (if (fcmp .eql .f64 x8 x4) = true then (laws_FnMeans.j6 k (d2 == 1)) else (laws_FnMeans.j6 k false)) else (laws_FnMeans.j6 k (d2 == 1))))
def laws_FnMeans.j4 : Nat → Fl → List (Fl) → Fl → Bool → List (Fl) → Bool → Int → Option (Bool)
 | 0, _, _, _, _, _, _, _ => none
 | k + 1, x4, x5, x8, l5, l2, o2, g5 => if o2 = true then (if 0 ≤ g5 then (if g5 < (l2.length : Int) then (if (fcmp .neq .f64 (rdf .f64 l2 g5) x4) = true then (laws_FnMeans.j5 k x4 x5 x8 l5 l2 o2 g5 true) else (laws_FnMeans.j5 k x4 x5 x8 l5 l2 o2 g5 false)) else (none)) else (none)) else (if 0 ≤ g5 then (if g5 < (l2.length : Int) then ((some (rdf .f64 l2 g5 : Fl)).bind fun fr153_0 => (laws_FnMeans.j5 k x4 x5 x8 l5 l2 o2 g5 (fcmp .eql .f64 fr153_0 fr153_0))) else (none)) else (none))
def laws_FnMeans.j5 : Nat → Fl → List (Fl) → Fl → Bool → List (Fl) → Bool → Int → Bool → Option (Bool)
 | 0, _, _, _, _, _, _, _, _ => none
 | k + 1, x4, x5, x8, l5, l2, o2, g5, B1 => if B1 = true then (some false) else (laws_FnMeans.l1 k x4 x5 x8 l5 l2 o2 (wrap64 (g5 + 1)))
def laws_FnMeans.j6 : Nat → Bool → Option (Bool)
 | 0, _ => none
 | k + 1, x2 => some x2
end
def laws_FnMeans.f (k : Nat) (l0 : List Int) : Option (Bool) := (laws_big.f l0).bind fun l6 => (if l6 = true then (some true) else ((laws_at.f l0 0).bind fun d3 => (laws_FnMeans.l0 k l0 (cn .f64 0) (fint .f64 (wrap64 (d3 - 128))) (([] : List (Fl))) 0 0)))
theorem laws_FnMeans.mono_l : ∀ k, (∀ y0 y1 y2 y3 y4 y5, LeO (laws_FnMeans.l0 k y0 y1 y2 y3 y4 y5) (laws_FnMeans.l0 (k + 1) y0 y1 y2 y3 y4 y5)) ∧ (∀ y0 y1 y2 y3 y4 y5, LeO (laws_FnMeans.j1 k y0 y1 y2 y3 y4 y5) (laws_FnMeans.j1 (k + 1) y0 y1 y2 y3 y4 y5)) ∧ (∀ y0 y1 y2 y3 y4 y5, LeO (laws_FnMeans.j2 k y0 y1 y2 y3 y4 y5) (laws_FnMeans.j2 (k + 1) y0 y1 y2 y3 y4 y5)) ∧ (∀ y0 y1 y2 y3 y4 y5 y6, LeO (laws_FnMeans.l1 k y0 y1 y2 y3 y4 y5 y6) (laws_FnMeans.l1 (k + 1) y0 y1 y2 y3 y4 y5 y6)) ∧ (∀ y0 y1 y2 y3 y4 y5 y6, LeO (laws_FnMeans.j4 k y0 y1 y2 y3 y4 y5 y6) (laws_FnMeans.j4 (k + 1) y0 y1 y2 y3 y4 y5 y6)) ∧ (∀ y0 y1 y2 y3 y4 y5 y6 y7, LeO (laws_FnMeans.j5 k y0 y1 y2 y3 y4 y5 y6 y7) (laws_FnMeans.j5 (k + 1) y0 y1 y2 y3 y4 y5 y6 y7)) ∧ (∀ y0, LeO (laws_FnMeans.j6 k y0) (laws_FnMeans.j6 (k + 1) y0))
 | 0 => ⟨fun _ _ _ _ _ _ r h => by simp [laws_FnMeans.l0] at h, fun _ _ _ _ _ _ r h => by simp [laws_FnMeans.j1] at h, fun _ _ _ _ _ _ r h => by simp [laws_FnMeans.j2] at h, fun _ _ _ _ _ _ _ r h => by simp [laws_FnMeans.l1] at h, fun _ _ _ _ _ _ _ r h => by simp [laws_FnMeans.j4] at h, fun _ _ _ _ _ _ _ _ r h => by simp [laws_FnMeans.j5] at h, fun _ r h => by simp [laws_FnMeans.j6] at h⟩
 | k + 1 => by
  obtain ⟨g6, g7, g8, g9, h2, h3, h4⟩ := laws_FnMeans.mono_l k
  refine ⟨?_, ?_, ?_, ?_, ?_, ?_, ?_⟩
  ·intro y0 y1 y2 y3 y4 y5
   unfold laws_FnMeans.l0
   repeat' first
   | (with_reducible exact g6 _ _ _ _ _ _)
   | (with_reducible exact g7 _ _ _ _ _ _)
   | (with_reducible exact g8 _ _ _ _ _ _)
   | (with_reducible exact g9 _ _ _ _ _ _ _)
   | (with_reducible exact h2 _ _ _ _ _ _ _)
   | (with_reducible exact h3 _ _ _ _ _ _ _ _)
   | (with_reducible exact h4 _)
   | (with_reducible exact impl_FirstOver.mono _ _ _)
   | (with_reducible exact impl_MeanOf.mono _ _)
   | (with_reducible exact impl_Smooth.mono _ _ _)
   | (with_reducible exact LeO.refl _)
   | (with_reducible exact LeO.none _)
   | (with_reducible refine LeO.ite ?_ ?_)
   | (with_reducible refine LeO.bind ?_ (fun _ => ?_))
   | exact g6 _ _ _ _ _ _
   | exact g7 _ _ _ _ _ _
   | exact g8 _ _ _ _ _ _
   | exact g9 _ _ _ _ _ _ _
   | exact h2 _ _ _ _ _ _ _
   | exact h3 _ _ _ _ _ _ _ _
   | exact h4 _
   | exact impl_FirstOver.mono _ _ _
   | exact impl_MeanOf.mono _ _
   | exact impl_Smooth.mono _ _ _
   | exact LeO.none _
   | refine LeO.ite ?_ ?_
   | refine LeO.bind ?_ (fun _ => ?_)
  ·intro y0 y1 y2 y3 y4 y5
   unfold laws_FnMeans.j1
   repeat' first
   | (with_reducible exact g6 _ _ _ _ _ _)
   | (with_reducible exact g7 _ _ _ _ _ _)
   | (with_reducible exact g8 _ _ _ _ _ _)
   | (with_reducible exact g9 _ _ _ _ _ _ _)
   | (with_reducible exact h2 _ _ _ _ _ _ _)
   | (with_reducible exact h3 _ _ _ _ _ _ _ _)
   | (with_reducible exact h4 _)
   | (with_reducible exact impl_FirstOver.mono _ _ _)
   | (with_reducible exact impl_MeanOf.mono _ _)
   | (with_reducible exact impl_Smooth.mono _ _ _)
   | (with_reducible exact LeO.refl _)
   | (with_reducible exact LeO.none _)
   | (with_reducible refine LeO.ite ?_ ?_)
   | (with_reducible refine LeO.bind ?_ (fun _ => ?_))
   | exact g6 _ _ _ _ _ _
   | exact g7 _ _ _ _ _ _
   | exact g8 _ _ _ _ _ _
   | exact g9 _ _ _ _ _ _ _
   | exact h2 _ _ _ _ _ _ _
   | exact h3 _ _ _ _ _ _ _ _
   | exact h4 _
   | exact impl_FirstOver.mono _ _ _
   | exact impl_MeanOf.mono _ _
   | exact impl_Smooth.mono _ _ _
   | exact LeO.none _
   | refine LeO.ite ?_ ?_
   | refine LeO.bind ?_ (fun _ => ?_)
  ·intro y0 y1 y2 y3 y4 y5
   unfold laws_FnMeans.j2
   repeat' first
   | (with_reducible exact g6 _ _ _ _ _ _)
   | (with_reducible exact g7 _ _ _ _ _ _)
   | (with_reducible exact g8 _ _ _ _ _ _)
   | (with_reducible exact g9 _ _ _ _ _ _ _)
   | (with_reducible exact h2 _ _ _ _ _ _ _)
   | (with_reducible exact h3 _ _ _ _ _ _ _ _)
   | (with_reducible exact h4 _)
   | (with_reducible exact impl_FirstOver.mono _ _ _)
   | (with_reducible exact impl_MeanOf.mono _ _)
   | (with_reducible exact impl_Smooth.mono _ _ _)
   | (with_reducible exact LeO.refl _)
   | (with_reducible exact LeO.none _)
   | (with_reducible refine LeO.ite ?_ ?_)
   | (with_reducible refine LeO.bind ?_ (fun _ => ?_))
   | exact g6 _ _ _ _ _ _
   | exact g7 _ _ _ _ _ _
   | exact g8 _ _ _ _ _ _
   | exact g9 _ _ _ _ _ _ _
   | exact h2 _ _ _ _ _ _ _
   | exact h3 _ _ _ _ _ _ _ _
   | exact h4 _
   | exact impl_FirstOver.mono _ _ _
   | exact impl_MeanOf.mono _ _
   | exact impl_Smooth.mono _ _ _
   | exact LeO.none _
   | refine LeO.ite ?_ ?_
   | refine LeO.bind ?_ (fun _ => ?_)
  ·intro y0 y1 y2 y3 y4 y5 y6
   unfold laws_FnMeans.l1
   repeat' first
   | (with_reducible exact g6 _ _ _ _ _ _)
   | (with_reducible exact g7 _ _ _ _ _ _)
   | (with_reducible exact g8 _ _ _ _ _ _)
   | (with_reducible exact g9 _ _ _ _ _ _ _)
   | (with_reducible exact h2 _ _ _ _ _ _ _)
   | (with_reducible exact h3 _ _ _ _ _ _ _ _)
   | (with_reducible exact h4 _)
   | (with_reducible exact impl_FirstOver.mono _ _ _)
   | (with_reducible exact impl_MeanOf.mono _ _)
   | (with_reducible exact impl_Smooth.mono _ _ _)
   | (with_reducible exact LeO.refl _)
   | (with_reducible exact LeO.none _)
   | (with_reducible refine LeO.ite ?_ ?_)
   | (with_reducible refine LeO.bind ?_ (fun _ => ?_))
   | exact g6 _ _ _ _ _ _
   | exact g7 _ _ _ _ _ _
   | exact g8 _ _ _ _ _ _
   | exact g9 _ _ _ _ _ _ _
   | exact h2 _ _ _ _ _ _ _
   | exact h3 _ _ _ _ _ _ _ _
   | exact h4 _
   | exact impl_FirstOver.mono _ _ _
   | exact impl_MeanOf.mono _ _
   | exact impl_Smooth.mono _ _ _
   | exact LeO.none _
   | refine LeO.ite ?_ ?_
   | refine LeO.bind ?_ (fun _ => ?_)
  ·intro y0 y1 y2 y3 y4 y5 y6
   unfold laws_FnMeans.j4
   repeat' first
   | (with_reducible exact g6 _ _ _ _ _ _)
   | (with_reducible exact g7 _ _ _ _ _ _)
   | (with_reducible exact g8 _ _ _ _ _ _)
   | (with_reducible exact g9 _ _ _ _ _ _ _)
   | (with_reducible exact h2 _ _ _ _ _ _ _)
   | (with_reducible exact h3 _ _ _ _ _ _ _ _)
   | (with_reducible exact h4 _)
   | (with_reducible exact impl_FirstOver.mono _ _ _)
   | (with_reducible exact impl_MeanOf.mono _ _)
   | (with_reducible exact impl_Smooth.mono _ _ _)
   | (with_reducible exact LeO.refl _)
   | (with_reducible exact LeO.none _)
   | (with_reducible refine LeO.ite ?_ ?_)
   | (with_reducible refine LeO.bind ?_ (fun _ => ?_))
   | exact g6 _ _ _ _ _ _
   | exact g7 _ _ _ _ _ _
   | exact g8 _ _ _ _ _ _
   | exact g9 _ _ _ _ _ _ _
   | exact h2 _ _ _ _ _ _ _
   | exact h3 _ _ _ _ _ _ _ _
   | exact h4 _
   | exact impl_FirstOver.mono _ _ _
   | exact impl_MeanOf.mono _ _
   | exact impl_Smooth.mono _ _ _
   | exact LeO.none _
   | refine LeO.ite ?_ ?_
   | refine LeO.bind ?_ (fun _ => ?_)
  ·intro y0 y1 y2 y3 y4 y5 y6 y7
   unfold laws_FnMeans.j5
   repeat' first
   | (with_reducible exact g6 _ _ _ _ _ _)
   | (with_reducible exact g7 _ _ _ _ _ _)
   | (with_reducible exact g8 _ _ _ _ _ _)
   | (with_reducible exact g9 _ _ _ _ _ _ _)
   | (with_reducible exact h2 _ _ _ _ _ _ _)
   | (with_reducible exact h3 _ _ _ _ _ _ _ _)
   | (with_reducible exact h4 _)
   | (with_reducible exact impl_FirstOver.mono _ _ _)
   | (with_reducible exact impl_MeanOf.mono _ _)
   | (with_reducible exact impl_Smooth.mono _ _ _)
   | (with_reducible exact LeO.refl _)
   | (with_reducible exact LeO.none _)
   | (with_reducible refine LeO.ite ?_ ?_)
   | (with_reducible refine LeO.bind ?_ (fun _ => ?_))
   | exact g6 _ _ _ _ _ _
   | exact g7 _ _ _ _ _ _
   | exact g8 _ _ _ _ _ _
   | exact g9 _ _ _ _ _ _ _
   | exact h2 _ _ _ _ _ _ _
   | exact h3 _ _ _ _ _ _ _ _
   | exact h4 _
   | exact impl_FirstOver.mono _ _ _
   | exact impl_MeanOf.mono _ _
   | exact impl_Smooth.mono _ _ _
   | exact LeO.none _
   | refine LeO.ite ?_ ?_
   | refine LeO.bind ?_ (fun _ => ?_)
  ·intro y0
   unfold laws_FnMeans.j6
   repeat' first
   | (with_reducible exact g6 _ _ _ _ _ _)
   | (with_reducible exact g7 _ _ _ _ _ _)
   | (with_reducible exact g8 _ _ _ _ _ _)
   | (with_reducible exact g9 _ _ _ _ _ _ _)
   | (with_reducible exact h2 _ _ _ _ _ _ _)
   | (with_reducible exact h3 _ _ _ _ _ _ _ _)
   | (with_reducible exact h4 _)
   | (with_reducible exact impl_FirstOver.mono _ _ _)
   | (with_reducible exact impl_MeanOf.mono _ _)
   | (with_reducible exact impl_Smooth.mono _ _ _)
   | (with_reducible exact LeO.refl _)
   | (with_reducible exact LeO.none _)
   | (with_reducible refine LeO.ite ?_ ?_)
   | (with_reducible refine LeO.bind ?_ (fun _ => ?_))
   | exact g6 _ _ _ _ _ _
   | exact g7 _ _ _ _ _ _
   | exact g8 _ _ _ _ _ _
   | exact g9 _ _ _ _ _ _ _
   | exact h2 _ _ _ _ _ _ _
   | exact h3 _ _ _ _ _ _ _ _
   | exact h4 _
   | exact impl_FirstOver.mono _ _ _
   | exact impl_MeanOf.mono _ _
   | exact impl_Smooth.mono _ _ _
   | exact LeO.none _
   | refine LeO.ite ?_ ?_
   | refine LeO.bind ?_ (fun _ => ?_)
theorem laws_FnMeans.mono : ∀ a0 k, LeO (laws_FnMeans.f k a0) (laws_FnMeans.f (k + 1) a0) := by
 intro a0 k
 obtain ⟨g6, g7, g8, g9, h2, h3, h4⟩ := laws_FnMeans.mono_l k
 unfold laws_FnMeans.f
 repeat' first
   | (with_reducible exact g6 _ _ _ _ _ _)
   | (with_reducible exact g7 _ _ _ _ _ _)
   | (with_reducible exact g8 _ _ _ _ _ _)
   | (with_reducible exact g9 _ _ _ _ _ _ _)
   | (with_reducible exact h2 _ _ _ _ _ _ _)
   | (with_reducible exact h3 _ _ _ _ _ _ _ _)
   | (with_reducible exact h4 _)
   | (with_reducible exact impl_FirstOver.mono _ _ _)
   | (with_reducible exact impl_MeanOf.mono _ _)
   | (with_reducible exact impl_Smooth.mono _ _ _)
   | (with_reducible exact LeO.refl _)
   | (with_reducible exact LeO.none _)
   | (with_reducible refine LeO.ite ?_ ?_)
   | (with_reducible refine LeO.bind ?_ (fun _ => ?_))
   | exact g6 _ _ _ _ _ _
   | exact g7 _ _ _ _ _ _
   | exact g8 _ _ _ _ _ _
   | exact g9 _ _ _ _ _ _ _
   | exact h2 _ _ _ _ _ _ _
   | exact h3 _ _ _ _ _ _ _ _
   | exact h4 _
   | exact impl_FirstOver.mono _ _ _
   | exact impl_MeanOf.mono _ _
   | exact impl_Smooth.mono _ _ _
   | exact LeO.none _
   | refine LeO.ite ?_ ?_
   | refine LeO.bind ?_ (fun _ => ?_)
set_option maxHeartbeats 8000000 in
set_option maxRecDepth 100000 in
theorem laws_FnMeans.calls (k : Nat) (A0 : Option Addr) (c0 : Nat) (l0 : List Int) (r : Bool) (w : World) (hr0 : Kd.C (Kd.int .u8) w A0 l0.length l0) (hc0 : l0.length ≤ c0) (h : laws_FnMeans.f k l0 = some r) :
  Calls Try.prog 6 #[.slice A0 l0.length c0] w fun e w' => e = .returned (.bool r) ∧ Below w.heap.size w w' := by
 have E1 := Try.underlying60
 have d4 := mk_ hr0; have d5 := mk_ hc0; clear hr0 hc0; have HB := mk_ (Below.refl w.heap.size w)
 have H : ((laws_big.f l0).bind fun l6 => (if l6 = true then (some true) else ((laws_at.f l0 0).bind fun d3 => (laws_FnMeans.l0 k l0 (cn .f64 0) (fint .f64 (wrap64 (d3 - 128))) (([] : List (Fl))) 0 0)))) = some r := h
 clear h; replace H := Option.bind_eq_some_iff.mp H; obtain ⟨l6, C7, H⟩ := H; (try dsimp only at H); have A2 := mk_ C7; clear C7; by_cases c3 : l6 = true
 ·subst c3; rw [if_pos rfl] at H
  obtain rfl := Option.some.inj H
  go_enter Try.func6, Try.ntmps6
  go_wp2_with (first | (go_at_call 23; (with_reducible refine (laws_big.calls _ _ l0 true _ ?a1 ?a2 A2.out).mono ?_); (case a1 => exact cw_ d4.out); (case a2 => exact d5.out); rintro e w' ⟨rfl, ⟨nd, rfl⟩⟩; (try first | exact ⟨rfl, _, World.drewN_drewN _ _ _⟩ | exact ⟨rfl, _, Eq.trans (World.drewN_drewN _ _ _) (congrArg (World.drewN _) (Nat.add_assoc _ _ _))⟩)))
  repeat (go_quiet (first | (go_at_call 23; (with_reducible refine (laws_big.calls _ _ l0 true _ ?a1 ?a2 A2.out).mono ?_); (case a1 => exact cw_ d4.out); (case a2 => exact d5.out); rintro e w' ⟨rfl, ⟨nd, rfl⟩⟩; (try first | exact ⟨rfl, _, World.drewN_drewN _ _ _⟩ | exact ⟨rfl, _, Eq.trans (World.drewN_drewN _ _ _) (congrArg (World.drewN _) (Nat.add_assoc _ _ _))⟩))); try go_wp2_with (first | (go_at_call 23; (with_reducible refine (laws_big.calls _ _ l0 true _ ?a1 ?a2 A2.out).mono ?_); (case a1 => exact cw_ d4.out); (case a2 => exact d5.out); rintro e w' ⟨rfl, ⟨nd, rfl⟩⟩; (try first | exact ⟨rfl, _, World.drewN_drewN _ _ _⟩ | exact ⟨rfl, _, Eq.trans (World.drewN_drewN _ _ _) (congrArg (World.drewN _) (Nat.add_assoc _ _ _))⟩))))
  go_ret
  exact ⟨re_, hw_ HB⟩
 ·replace c3 := Bool.eq_false_iff.mpr c3; subst c3; rw [if_neg (show ¬ (false = true) by decide)] at H; replace H := Option.bind_eq_some_iff.mp H; obtain ⟨d3, C8, H⟩ := H; (try dsimp only at H); have A4 := mk_ C8; clear C8
  obtain ⟨ft130, hft130⟩ : ∃ y_ : Fl, y_ = (fint .f64 (wrap64 (d3 - 128))) := ⟨_, rfl⟩
  replace H : (laws_FnMeans.l0 k l0 (cn .f64 0) ft130 (([] : List (Fl))) 0 0) = some r := by first | (rw [hft130]; with_reducible exact H) | (have H2_ := (Option.bind_some _ _).symm.trans H; rw [hft130]; with_reducible exact H2_) | (have H2_ := (Option.bind_some _ _).symm.trans H; with_reducible exact H2_) | with_reducible exact H | (rw [hft130]; exact H) | exact H
  have Nft130 := mk_ hft130; clear hft130
  obtain ⟨q3, h5⟩ : ∃ y_ : List (Fl), y_ = (([] : List (Fl))) := ⟨_, rfl⟩
  replace H : (laws_FnMeans.l0 k l0 (cn .f64 0) ft130 q3 0 0) = some r := by first | (rw [h5]; with_reducible exact H) | (have H2_ := (Option.bind_some _ _).symm.trans H; rw [h5]; with_reducible exact H2_) | (have H2_ := (Option.bind_some _ _).symm.trans H; with_reducible exact H2_) | with_reducible exact H | (rw [h5]; exact H) | exact H
  have g1 := mk_ h5; clear h5
  have H' := mk_ H
  clear H
  go_enter Try.func6, Try.ntmps6
  go_wp2_with (first | (go_at_call 23; (with_reducible refine (laws_big.calls _ _ l0 false _ ?a1 ?a2 A2.out).mono ?_); (case a1 => exact cw_ d4.out); (case a2 => exact d5.out); rintro e w' ⟨rfl, ⟨nd, rfl⟩⟩; (try first | exact ⟨rfl, _, World.drewN_drewN _ _ _⟩ | exact ⟨rfl, _, Eq.trans (World.drewN_drewN _ _ _) (congrArg (World.drewN _) (Nat.add_assoc _ _ _))⟩)) | (go_at_call 24; (with_reducible refine (laws_at.calls _ _ l0 0 d3 _ ?a1 ?a2 A4.out).mono ?_); (case a1 => exact cw_ d4.out); (case a2 => exact d5.out); rintro e w' ⟨rfl, ⟨nd, rfl⟩⟩; (try first | exact ⟨rfl, _, World.drewN_drewN _ _ _⟩ | exact ⟨rfl, _, Eq.trans (World.drewN_drewN _ _ _) (congrArg (World.drewN _) (Nat.add_assoc _ _ _))⟩)) | ((with_reducible refine gd_ 21 rfl ?_); (try (refine gate_guard (by rfl) ?_; dsimp only)); refine fint_event rfl (N := 21) rfl rfl .f64 .i64 (wrap64 (d3 - 128)) Try.underlying3 Try.underlying36 rfl ?_; intro b_ft130 nf_ hF_; replace hF_ := hF_.trans Nft130.out.symm; have hF_ft130 := hF_; clear hF_) | ((with_reducible refine gd_ 22 rfl ?_); (try (refine gate_guard (by rfl) ?_; dsimp only)); refine Kd.R_lit (Kd.fl .f64) _ 36 ?hg (N := 22) ?hd (xs := ([] : List (Fl))) (inner := []) (ok := fun _ => True) (okp := fun _ => True) ?hr ?hp (fun _ hk => hk) trivial (Below.refl _ _) (Nat.le_refl _) (by simp) ?_; (case hd => rfl); (case hg => rfl); (case hr => exact hr_); (case hp => exact (Reps.none _ _)); intro v132 w5 h6 hb hg_ hnew_; clear hg_ hnew_; (first | rw [← g1.out] at h6 | (simp only [Int.reduceToNat] at h6; rw [← g1.out] at h6)); have l7 := mk_ (Kd.R_lower h6 (below_size (hw_ HB))); replace HB := hk_ HB hb; clear hb h6))
  repeat (go_quiet (first | (go_at_call 23; (with_reducible refine (laws_big.calls _ _ l0 false _ ?a1 ?a2 A2.out).mono ?_); (case a1 => exact cw_ d4.out); (case a2 => exact d5.out); rintro e w' ⟨rfl, ⟨nd, rfl⟩⟩; (try first | exact ⟨rfl, _, World.drewN_drewN _ _ _⟩ | exact ⟨rfl, _, Eq.trans (World.drewN_drewN _ _ _) (congrArg (World.drewN _) (Nat.add_assoc _ _ _))⟩)) | (go_at_call 24; (with_reducible refine (laws_at.calls _ _ l0 0 d3 _ ?a1 ?a2 A4.out).mono ?_); (case a1 => exact cw_ d4.out); (case a2 => exact d5.out); rintro e w' ⟨rfl, ⟨nd, rfl⟩⟩; (try first | exact ⟨rfl, _, World.drewN_drewN _ _ _⟩ | exact ⟨rfl, _, Eq.trans (World.drewN_drewN _ _ _) (congrArg (World.drewN _) (Nat.add_assoc _ _ _))⟩)) | ((with_reducible refine gd_ 21 rfl ?_); (try (refine gate_guard (by rfl) ?_; dsimp only)); refine fint_event rfl (N := 21) rfl rfl .f64 .i64 (wrap64 (d3 - 128)) Try.underlying3 Try.underlying36 rfl ?_; intro b_ft130 nf_ hF_; replace hF_ := hF_.trans Nft130.out.symm; have hF_ft130 := hF_; clear hF_) | ((with_reducible refine gd_ 22 rfl ?_); (try (refine gate_guard (by rfl) ?_; dsimp only)); refine Kd.R_lit (Kd.fl .f64) _ 36 ?hg (N := 22) ?hd (xs := ([] : List (Fl))) (inner := []) (ok := fun _ => True) (okp := fun _ => True) ?hr ?hp (fun _ hk => hk) trivial (Below.refl _ _) (Nat.le_refl _) (by simp) ?_; (case hd => rfl); (case hg => rfl); (case hr => exact hr_); (case hp => exact (Reps.none _ _)); intro v132 w5 h6 hb hg_ hnew_; clear hg_ hnew_; (first | rw [← g1.out] at h6 | (simp only [Int.reduceToNat] at h6; rw [← g1.out] at h6)); have l7 := mk_ (Kd.R_lower h6 (below_size (hw_ HB))); replace HB := hk_ HB hb; clear hb h6)); try go_wp2_with (first | (go_at_call 23; (with_reducible refine (laws_big.calls _ _ l0 false _ ?a1 ?a2 A2.out).mono ?_); (case a1 => exact cw_ d4.out); (case a2 => exact d5.out); rintro e w' ⟨rfl, ⟨nd, rfl⟩⟩; (try first | exact ⟨rfl, _, World.drewN_drewN _ _ _⟩ | exact ⟨rfl, _, Eq.trans (World.drewN_drewN _ _ _) (congrArg (World.drewN _) (Nat.add_assoc _ _ _))⟩)) | (go_at_call 24; (with_reducible refine (laws_at.calls _ _ l0 0 d3 _ ?a1 ?a2 A4.out).mono ?_); (case a1 => exact cw_ d4.out); (case a2 => exact d5.out); rintro e w' ⟨rfl, ⟨nd, rfl⟩⟩; (try first | exact ⟨rfl, _, World.drewN_drewN _ _ _⟩ | exact ⟨rfl, _, Eq.trans (World.drewN_drewN _ _ _) (congrArg (World.drewN _) (Nat.add_assoc _ _ _))⟩)) | ((with_reducible refine gd_ 21 rfl ?_); (try (refine gate_guard (by rfl) ?_; dsimp only)); refine fint_event rfl (N := 21) rfl rfl .f64 .i64 (wrap64 (d3 - 128)) Try.underlying3 Try.underlying36 rfl ?_; intro b_ft130 nf_ hF_; replace hF_ := hF_.trans Nft130.out.symm; have hF_ft130 := hF_; clear hF_) | ((with_reducible refine gd_ 22 rfl ?_); (try (refine gate_guard (by rfl) ?_; dsimp only)); refine Kd.R_lit (Kd.fl .f64) _ 36 ?hg (N := 22) ?hd (xs := ([] : List (Fl))) (inner := []) (ok := fun _ => True) (okp := fun _ => True) ?hr ?hp (fun _ hk => hk) trivial (Below.refl _ _) (Nat.le_refl _) (by simp) ?_; (case hd => rfl); (case hg => rfl); (case hr => exact hr_); (case hp => exact (Reps.none _ _)); intro v132 w5 h6 hb hg_ hnew_; clear hg_ hnew_; (first | rw [← g1.out] at h6 | (simp only [Int.reduceToNat] at h6; rw [← g1.out] at h6)); have l7 := mk_ (Kd.R_lower h6 (below_size (hw_ HB))); replace HB := hk_ HB hb; clear hb h6)))
  go_loopg [5, 6, 7] k (fun kq v5 v6 v7 w' => ∃ (a5 : List (Fl)) (b4 : Int) (b5 : Int), v6 = .int .i64 b4 ∧ v7 = .int .i64 b5 ∧ Aside0 (laws_FnMeans.l0 kq l0 (cn .f64 0) ft130 a5 b4 b5 = some r) ∧ Aside0 (kq ≤ k) ∧ Aside0 (Kd.R (Kd.fl .f64) 36 w' w.heap.size (fun _ => True) v5 a5) ∧ Aside0 (Below w.heap.size w w'))
  case atStart => exact ⟨(q3), (0), (0), rf_, rf_, H', ⟨Nat.le_refl _⟩, kw_ l7, ⟨hw_ HB⟩⟩
  case round =>
   clear H'; (try clear c3)
   obtain ⟨a5, b4, b5, rfl, rfl, HA, g4, a3, HB⟩ := hrel
   cases gk with
   | zero => exact absurd HA.out (by simp [laws_FnMeans.l0])
   | succ k1 =>
    have H := HA.out; clear HA
    simp only [laws_FnMeans.l0] at H
    replace H := Option.bind_eq_some_iff.mp H; obtain ⟨d1, C9, H⟩ := H
    (try dsimp only at H); have A7 := mk_ C9; clear C9
    by_cases c8 : b5 < (wrap64 (1 + (Int.tmod d1 20)))
    ·rw [if_pos c8] at H; have B2 : decide (b5 < (wrap64 (1 + (Int.tmod d1 20)))) = true := decide_eq_true c8; clear c8; have B3 := mk_ H; clear H
     go_upto_block 1 with (first | (go_at_call 24; (with_reducible refine (laws_at.calls _ _ l0 1 d1 _ ?a1 ?a2 A7.out).mono ?_); (case a1 => exact cw_ (Kd.C_below d4.out HB.out)); (case a2 => exact d5.out); rintro e w' ⟨rfl, ⟨nd, rfl⟩⟩; (try first | exact ⟨rfl, _, World.drewN_drewN _ _ _⟩ | exact ⟨rfl, _, Eq.trans (World.drewN_drewN _ _ _) (congrArg (World.drewN _) (Nat.add_assoc _ _ _))⟩)))
     repeat (go_quiet (first | (go_at_call 24; (with_reducible refine (laws_at.calls _ _ l0 1 d1 _ ?a1 ?a2 A7.out).mono ?_); (case a1 => exact cw_ (Kd.C_below d4.out HB.out)); (case a2 => exact d5.out); rintro e w' ⟨rfl, ⟨nd, rfl⟩⟩; (try first | exact ⟨rfl, _, World.drewN_drewN _ _ _⟩ | exact ⟨rfl, _, Eq.trans (World.drewN_drewN _ _ _) (congrArg (World.drewN _) (Nat.add_assoc _ _ _))⟩))); go_upto_block 1 with (first | (go_at_call 24; (with_reducible refine (laws_at.calls _ _ l0 1 d1 _ ?a1 ?a2 A7.out).mono ?_); (case a1 => exact cw_ (Kd.C_below d4.out HB.out)); (case a2 => exact d5.out); rintro e w' ⟨rfl, ⟨nd, rfl⟩⟩; (try first | exact ⟨rfl, _, World.drewN_drewN _ _ _⟩ | exact ⟨rfl, _, Eq.trans (World.drewN_drewN _ _ _) (congrArg (World.drewN _) (Nat.add_assoc _ _ _))⟩))))
     (try simp only [Act.put, List.setIfInBounds_toArray, List.set_cons_zero, List.set_cons_succ])
     go_cut [5, 6] (fun v5 v6 wc => ∃ (kq : Nat) (n1 : List (Fl)) (n2 : Int), v6 = .int .i64 n2 ∧ Aside0 (laws_FnMeans.j1 kq l0 (cn .f64 0) ft130 n1 n2 b5 = some r) ∧ Aside0 (kq ≤ k1) ∧ Aside0 (Kd.R (Kd.fl .f64) 36 wc w.heap.size (fun _ => True) v5 n1) ∧ Aside0 (Below w.heap.size w wc))
     case first =>
      have H := B3.out; clear B3; replace H := Option.bind_eq_some_iff.mp H; obtain ⟨c7, q4, H⟩ := H; (try dsimp only at H); have q0 := mk_ q4; clear q4; by_cases o6 : (Int.tmod c7 3) = 0
      ·rw [if_pos o6] at H; have h7 : ((Int.tmod c7 3) == 0) = true := beq_iff_eq.mpr o6; have q5 : ((Int.tmod c7 3) != 0) = false := bne_eq_false_iff_eq.mpr o6; clear o6
       (first | rw [h7] | (simp only [i64_w, i32_w]; rw [h7]) | skip)
       obtain ⟨ft136, hft136⟩ : ∃ y_ : Fl, y_ = (fop .quo .f64 (cn .f64 0) (cn .f64 0)) := ⟨_, rfl⟩
       replace H : (if a5.length < 17592186044416 then (laws_FnMeans.j1 k1 l0 (cn .f64 0) ft130 (a5 ++ [ft136]) b4 b5) else (none)) = some r := by first | (rw [hft136]; with_reducible exact H) | (have H2_ := (Option.bind_some _ _).symm.trans H; rw [hft136]; with_reducible exact H2_) | (have H2_ := (Option.bind_some _ _).symm.trans H; with_reducible exact H2_) | with_reducible exact H | (rw [hft136]; exact H) | exact H
       have Nft136 := mk_ hft136; clear hft136; by_cases t7 : a5.length < 17592186044416
       ·rw [if_pos t7] at H; have LMc12 := mk_ t7; clear t7
        obtain ⟨q6, h8⟩ : ∃ y_ : List (Fl), y_ = (a5 ++ [ft136]) := ⟨_, rfl⟩
        replace H : (laws_FnMeans.j1 k1 l0 (cn .f64 0) ft130 q6 b4 b5) = some r := by first | (rw [h8]; with_reducible exact H) | (have H2_ := (Option.bind_some _ _).symm.trans H; rw [h8]; with_reducible exact H2_) | (have H2_ := (Option.bind_some _ _).symm.trans H; with_reducible exact H2_) | with_reducible exact H | (rw [h8]; exact H) | exact H
        have l8 := mk_ h8; clear h8
        have H' := mk_ H
        clear H
        go_wp2_with (first | (go_at_call 24; (with_reducible refine (laws_at.calls _ _ l0 (wrap64 (b5 + 2)) c7 _ ?a1 ?a2 q0.out).mono ?_); (case a1 => exact cw_ (Kd.C_below d4.out HB.out)); (case a2 => exact d5.out); rintro e w' ⟨rfl, ⟨nd, rfl⟩⟩; (try first | exact ⟨rfl, _, World.drewN_drewN _ _ _⟩ | exact ⟨rfl, _, Eq.trans (World.drewN_drewN _ _ _) (congrArg (World.drewN _) (Nat.add_assoc _ _ _))⟩)) | ((with_reducible refine gd_ 40 rfl ?_); (try (refine gate_guard (by rfl) ?_; dsimp only)); refine fop_event rfl (N := 40) rfl (op := .quo) (by simp) rfl .f64 0 0 (cn .f64 0) (cn .f64 0) rfl rfl rfl rfl ?_; intro b_ft136 nf_ hF_; replace hF_ := hF_.trans Nft136.out.symm; have hF_ft136 := hF_; clear hF_) | ((with_reducible refine gate_builtin (b := .append) (xs := #[.tmp 37, .tmp 41]) rfl ?_); (try (refine gate_guard (by rfl) ?_; dsimp only)); at_builtin; refine Kd.R_append (Kd.fl .f64) (w0 := w) w.heap.size rfl (.tmp 37) (.tmp 41) 53 36 (.float .f64 0) 8 rfl Try.underlying53 info36 rfl (by decide) (by omega) u5 a5 ft136 [.float .f64 b_ft136] (fun _ => True) (fun _ => False) rfl rfl ?aP (fun _ hk => hk.elim) ?aF ?aO ?aB ?aS ?aL ?_; (case aP => exact Kd.M_fl hF_ft136); (case aB => exact (hw_ HB)); (case aF => exact (fun _ _ => trivial)); (case aO => exact (kx_ a3)); (case aS => exact (below_size (hw_ HB))); (case aL => have := LMc12.out; omega); intro v138 D0 ho hb hg hat; rw [← l8.out] at ho; replace HB := mk_ (hb); have l9 := mk_ (ho); clear a3; clear ho hb hg hat))
        repeat (go_quiet (first | (go_at_call 24; (with_reducible refine (laws_at.calls _ _ l0 (wrap64 (b5 + 2)) c7 _ ?a1 ?a2 q0.out).mono ?_); (case a1 => exact cw_ (Kd.C_below d4.out HB.out)); (case a2 => exact d5.out); rintro e w' ⟨rfl, ⟨nd, rfl⟩⟩; (try first | exact ⟨rfl, _, World.drewN_drewN _ _ _⟩ | exact ⟨rfl, _, Eq.trans (World.drewN_drewN _ _ _) (congrArg (World.drewN _) (Nat.add_assoc _ _ _))⟩)) | ((with_reducible refine gd_ 40 rfl ?_); (try (refine gate_guard (by rfl) ?_; dsimp only)); refine fop_event rfl (N := 40) rfl (op := .quo) (by simp) rfl .f64 0 0 (cn .f64 0) (cn .f64 0) rfl rfl rfl rfl ?_; intro b_ft136 nf_ hF_; replace hF_ := hF_.trans Nft136.out.symm; have hF_ft136 := hF_; clear hF_) | ((with_reducible refine gate_builtin (b := .append) (xs := #[.tmp 37, .tmp 41]) rfl ?_); (try (refine gate_guard (by rfl) ?_; dsimp only)); at_builtin; refine Kd.R_append (Kd.fl .f64) (w0 := w) w.heap.size rfl (.tmp 37) (.tmp 41) 53 36 (.float .f64 0) 8 rfl Try.underlying53 info36 rfl (by decide) (by omega) u5 a5 ft136 [.float .f64 b_ft136] (fun _ => True) (fun _ => False) rfl rfl ?aP (fun _ hk => hk.elim) ?aF ?aO ?aB ?aS ?aL ?_; (case aP => exact Kd.M_fl hF_ft136); (case aB => exact (hw_ HB)); (case aF => exact (fun _ _ => trivial)); (case aO => exact (kx_ a3)); (case aS => exact (below_size (hw_ HB))); (case aL => have := LMc12.out; omega); intro v138 D0 ho hb hg hat; rw [← l8.out] at ho; replace HB := mk_ (hb); have l9 := mk_ (ho); clear a3; clear ho hb hg hat)); try go_wp2_with (first | (go_at_call 24; (with_reducible refine (laws_at.calls _ _ l0 (wrap64 (b5 + 2)) c7 _ ?a1 ?a2 q0.out).mono ?_); (case a1 => exact cw_ (Kd.C_below d4.out HB.out)); (case a2 => exact d5.out); rintro e w' ⟨rfl, ⟨nd, rfl⟩⟩; (try first | exact ⟨rfl, _, World.drewN_drewN _ _ _⟩ | exact ⟨rfl, _, Eq.trans (World.drewN_drewN _ _ _) (congrArg (World.drewN _) (Nat.add_assoc _ _ _))⟩)) | ((with_reducible refine gd_ 40 rfl ?_); (try (refine gate_guard (by rfl) ?_; dsimp only)); refine fop_event rfl (N := 40) rfl (op := .quo) (by simp) rfl .f64 0 0 (cn .f64 0) (cn .f64 0) rfl rfl rfl rfl ?_; intro b_ft136 nf_ hF_; replace hF_ := hF_.trans Nft136.out.symm; have hF_ft136 := hF_; clear hF_) | ((with_reducible refine gate_builtin (b := .append) (xs := #[.tmp 37, .tmp 41]) rfl ?_); (try (refine gate_guard (by rfl) ?_; dsimp only)); at_builtin; refine Kd.R_append (Kd.fl .f64) (w0 := w) w.heap.size rfl (.tmp 37) (.tmp 41) 53 36 (.float .f64 0) 8 rfl Try.underlying53 info36 rfl (by decide) (by omega) u5 a5 ft136 [.float .f64 b_ft136] (fun _ => True) (fun _ => False) rfl rfl ?aP (fun _ hk => hk.elim) ?aF ?aO ?aB ?aS ?aL ?_; (case aP => exact Kd.M_fl hF_ft136); (case aB => exact (hw_ HB)); (case aF => exact (fun _ _ => trivial)); (case aO => exact (kx_ a3)); (case aS => exact (below_size (hw_ HB))); (case aL => have := LMc12.out; omega); intro v138 D0 ho hb hg hat; rw [← l8.out] at ho; replace HB := mk_ (hb); have l9 := mk_ (ho); clear a3; clear ho hb hg hat)))
        go_meet
        case rel => exact ⟨_, (q6), (b4), rf_, H', ⟨by have := g4.out; first | omega | exact Nat.le_refl _⟩, kw_ l9, ⟨hw_ HB⟩⟩
       ·rw [if_neg t7] at H
        exact absurd H (by simp)
      ·rw [if_neg o6] at H; have h7 : ((Int.tmod c7 3) == 0) = false := beq_eq_false_iff_ne.mpr o6; have q5 : ((Int.tmod c7 3) != 0) = true := bne_iff_ne.mpr o6
       (first | rw [h7] | (simp only [i64_w, i32_w]; rw [h7]) | skip)
       by_cases t8 : a5.length < 17592186044416
       ·rw [if_pos t8] at H; have LMc14 := mk_ t8; clear t8
        obtain ⟨q7, h9⟩ : ∃ y_ : List (Fl), y_ = (a5 ++ [ft130]) := ⟨_, rfl⟩
        replace H : (laws_FnMeans.j1 k1 l0 (cn .f64 0) ft130 q7 (wrap64 (b4 + 1)) b5) = some r := by first | (rw [h9]; with_reducible exact H) | (have H2_ := (Option.bind_some _ _).symm.trans H; rw [h9]; with_reducible exact H2_) | (have H2_ := (Option.bind_some _ _).symm.trans H; with_reducible exact H2_) | with_reducible exact H | (rw [h9]; exact H) | exact H
        have m0 := mk_ h9; clear h9
        have H' := mk_ H
        clear H
        go_wp2_with (first | (go_at_call 24; (with_reducible refine (laws_at.calls _ _ l0 (wrap64 (b5 + 2)) c7 _ ?a1 ?a2 q0.out).mono ?_); (case a1 => exact cw_ (Kd.C_below d4.out HB.out)); (case a2 => exact d5.out); rintro e w' ⟨rfl, ⟨nd, rfl⟩⟩; (try first | exact ⟨rfl, _, World.drewN_drewN _ _ _⟩ | exact ⟨rfl, _, Eq.trans (World.drewN_drewN _ _ _) (congrArg (World.drewN _) (Nat.add_assoc _ _ _))⟩)) | ((with_reducible refine gate_builtin (b := .append) (xs := #[.tmp 43, .tmp 45]) rfl ?_); (try (refine gate_guard (by rfl) ?_; dsimp only)); at_builtin; refine Kd.R_append (Kd.fl .f64) (w0 := w) w.heap.size rfl (.tmp 43) (.tmp 45) 53 36 (.float .f64 0) 8 rfl Try.underlying53 info36 rfl (by decide) (by omega) u5 a5 ft130 [.float .f64 b_ft130] (fun _ => True) (fun _ => False) rfl rfl ?aP (fun _ hk => hk.elim) ?aF ?aO ?aB ?aS ?aL ?_; (case aP => exact Kd.M_fl hF_ft130); (case aB => exact (hw_ HB)); (case aF => exact (fun _ _ => trivial)); (case aO => exact (kx_ a3)); (case aS => exact (below_size (hw_ HB))); (case aL => have := LMc14.out; omega); intro v141 D1 ho hb hg hat; rw [← m0.out] at ho; replace HB := mk_ (hb); have m1 := mk_ (ho); clear a3; clear ho hb hg hat))
        repeat (go_quiet (first | (go_at_call 24; (with_reducible refine (laws_at.calls _ _ l0 (wrap64 (b5 + 2)) c7 _ ?a1 ?a2 q0.out).mono ?_); (case a1 => exact cw_ (Kd.C_below d4.out HB.out)); (case a2 => exact d5.out); rintro e w' ⟨rfl, ⟨nd, rfl⟩⟩; (try first | exact ⟨rfl, _, World.drewN_drewN _ _ _⟩ | exact ⟨rfl, _, Eq.trans (World.drewN_drewN _ _ _) (congrArg (World.drewN _) (Nat.add_assoc _ _ _))⟩)) | ((with_reducible refine gate_builtin (b := .append) (xs := #[.tmp 43, .tmp 45]) rfl ?_); (try (refine gate_guard (by rfl) ?_; dsimp only)); at_builtin; refine Kd.R_append (Kd.fl .f64) (w0 := w) w.heap.size rfl (.tmp 43) (.tmp 45) 53 36 (.float .f64 0) 8 rfl Try.underlying53 info36 rfl (by decide) (by omega) u5 a5 ft130 [.float .f64 b_ft130] (fun _ => True) (fun _ => False) rfl rfl ?aP (fun _ hk => hk.elim) ?aF ?aO ?aB ?aS ?aL ?_; (case aP => exact Kd.M_fl hF_ft130); (case aB => exact (hw_ HB)); (case aF => exact (fun _ _ => trivial)); (case aO => exact (kx_ a3)); (case aS => exact (below_size (hw_ HB))); (case aL => have := LMc14.out; omega); intro v141 D1 ho hb hg hat; rw [← m0.out] at ho; replace HB := mk_ (hb); have m1 := mk_ (ho); clear a3; clear ho hb hg hat)); try go_wp2_with (first | (go_at_call 24; (with_reducible refine (laws_at.calls _ _ l0 (wrap64 (b5 + 2)) c7 _ ?a1 ?a2 q0.out).mono ?_); (case a1 => exact cw_ (Kd.C_below d4.out HB.out)); (case a2 => exact d5.out); rintro e w' ⟨rfl, ⟨nd, rfl⟩⟩; (try first | exact ⟨rfl, _, World.drewN_drewN _ _ _⟩ | exact ⟨rfl, _, Eq.trans (World.drewN_drewN _ _ _) (congrArg (World.drewN _) (Nat.add_assoc _ _ _))⟩)) | ((with_reducible refine gate_builtin (b := .append) (xs := #[.tmp 43, .tmp 45]) rfl ?_); (try (refine gate_guard (by rfl) ?_; dsimp only)); at_builtin; refine Kd.R_append (Kd.fl .f64) (w0 := w) w.heap.size rfl (.tmp 43) (.tmp 45) 53 36 (.float .f64 0) 8 rfl Try.underlying53 info36 rfl (by decide) (by omega) u5 a5 ft130 [.float .f64 b_ft130] (fun _ => True) (fun _ => False) rfl rfl ?aP (fun _ hk => hk.elim) ?aF ?aO ?aB ?aS ?aL ?_; (case aP => exact Kd.M_fl hF_ft130); (case aB => exact (hw_ HB)); (case aF => exact (fun _ _ => trivial)); (case aO => exact (kx_ a3)); (case aS => exact (below_size (hw_ HB))); (case aL => have := LMc14.out; omega); intro v141 D1 ho hb hg hat; rw [← m0.out] at ho; replace HB := mk_ (hb); have m1 := mk_ (ho); clear a3; clear ho hb hg hat)))
        go_meet
        case rel => exact ⟨_, (q7), (wrap64 (b4 + 1)), rf_, H', ⟨by have := g4.out; first | omega | exact Nat.le_refl _⟩, kw_ m1, ⟨hw_ HB⟩⟩
       ·rw [if_neg t8] at H
        exact absurd H (by simp)
     case rest =>
      clear B3; (try clear c3); (try clear c8)
      obtain ⟨kq, n1, n2, rfl, HA, D2, a3, HB⟩ := hcut
      cases kq with
      | zero => exact absurd HA.out (by simp [laws_FnMeans.j1])
      | succ kj8 =>
       have H := HA.out; clear HA
       simp only [laws_FnMeans.j1] at H
       have H' := mk_ H
       clear H; go_wp2
       repeat (go_quiet (fail); try go_wp2)
       go_roundg kj8
       case measure => have := g4.out; have := D2.out; omega
       case rel => exact ⟨(n1), (n2), (wrap64 (b5 + 1)), rf_, rf_, H', ⟨by have := g4.out; have := D2.out; omega⟩, kw_ a3, ⟨hw_ HB⟩⟩
    ·rw [if_neg c8] at H; have B2 : decide (b5 < (wrap64 (1 + (Int.tmod d1 20)))) = false := decide_eq_false c8; clear c8; replace H := Option.bind_eq_some_iff.mp H; obtain ⟨⟨c5, n3, a9⟩, q8, H⟩ := H; (try dsimp only at H); have B4 := mk_ q8; clear q8; replace H := Option.bind_eq_some_iff.mp H; obtain ⟨⟨a7, n4⟩, q9, H⟩ := H; (try dsimp only at H); have B5 := mk_ q9; clear q9; have o7 := mk_ H; clear H
     go_upto_region 16 with (first | (go_at_call 24; (with_reducible refine (laws_at.calls _ _ l0 1 d1 _ ?a1 ?a2 A7.out).mono ?_); (case a1 => exact cw_ (Kd.C_below d4.out HB.out)); (case a2 => exact d5.out); rintro e w' ⟨rfl, ⟨nd, rfl⟩⟩; (try first | exact ⟨rfl, _, World.drewN_drewN _ _ _⟩ | exact ⟨rfl, _, Eq.trans (World.drewN_drewN _ _ _) (congrArg (World.drewN _) (Nat.add_assoc _ _ _))⟩); obtain ⟨d6, d7, m2⟩ := Kd.R_slice a3.out; subst m2) | (go_at_call 27; (with_reducible refine (impl_MeanOf.calls k1 _ _ a5 c5 n3 a9 _ ?a1 ?a2 B4.out).mono ?_); (case a1 => exact cw_ (rr_ a3)); (case a2 => exact (Kd.R_reads' a3.out).2.1); rintro e w' ⟨m3, rfl, l3, ⟨nd, rfl⟩⟩; (try first | exact ⟨rfl, _, World.drewN_drewN _ _ _⟩ | exact ⟨rfl, _, Eq.trans (World.drewN_drewN _ _ _) (congrArg (World.drewN _) (Nat.add_assoc _ _ _))⟩)) | (go_at_call 28; (with_reducible refine (impl_Smooth.calls k1 _ _ a5 4607182418800017408 (cn .f64 4607182418800017408) a7 n4 _ ?a1 ?a2 ?b6 B5.out).mono ?_); (case a1 => exact cw_ (rr_ a3)); (case a2 => exact (Kd.R_reads' a3.out).2.1); (case b6 => exact rfl); rintro e D3 ⟨v148, rfl, m4, hb⟩; have c6 := mk_ (Kd.R_lower (Kd.R_new' m4 (Kd.R_lt (kx_ a3))) (below_size (hw_ HB))); replace a3 := mk_ (Kd.R_elder' (kx_ a3) (Kd.R_base m4) hb); replace HB := hk_ HB hb; (try clear hb); (try clear s0); (try clear hk); (try clear hi); (try clear m4)))
     (try (obtain ⟨d6, d7, m2⟩ := Kd.R_slice a3.out; subst m2))
     repeat (go_quiet (first | (go_at_call 24; (with_reducible refine (laws_at.calls _ _ l0 1 d1 _ ?a1 ?a2 A7.out).mono ?_); (case a1 => exact cw_ (Kd.C_below d4.out HB.out)); (case a2 => exact d5.out); rintro e w' ⟨rfl, ⟨nd, rfl⟩⟩; (try first | exact ⟨rfl, _, World.drewN_drewN _ _ _⟩ | exact ⟨rfl, _, Eq.trans (World.drewN_drewN _ _ _) (congrArg (World.drewN _) (Nat.add_assoc _ _ _))⟩)) | (go_at_call 27; (with_reducible refine (impl_MeanOf.calls k1 _ _ a5 c5 n3 a9 _ ?a1 ?a2 B4.out).mono ?_); (case a1 => exact cw_ (rr_ a3)); (case a2 => exact (Kd.R_reads' a3.out).2.1); rintro e w' ⟨m3, rfl, l3, ⟨nd, rfl⟩⟩; (try first | exact ⟨rfl, _, World.drewN_drewN _ _ _⟩ | exact ⟨rfl, _, Eq.trans (World.drewN_drewN _ _ _) (congrArg (World.drewN _) (Nat.add_assoc _ _ _))⟩)) | (go_at_call 28; (with_reducible refine (impl_Smooth.calls k1 _ _ a5 4607182418800017408 (cn .f64 4607182418800017408) a7 n4 _ ?a1 ?a2 ?b6 B5.out).mono ?_); (case a1 => exact cw_ (rr_ a3)); (case a2 => exact (Kd.R_reads' a3.out).2.1); (case b6 => exact rfl); rintro e D3 ⟨v148, rfl, m4, hb⟩; have c6 := mk_ (Kd.R_lower (Kd.R_new' m4 (Kd.R_lt (kx_ a3))) (below_size (hw_ HB))); replace a3 := mk_ (Kd.R_elder' (kx_ a3) (Kd.R_base m4) hb); replace HB := hk_ HB hb; (try clear hb); (try clear s0); (try clear hk); (try clear hi); (try clear m4))); go_upto_region 16 with (first | (go_at_call 24; (with_reducible refine (laws_at.calls _ _ l0 1 d1 _ ?a1 ?a2 A7.out).mono ?_); (case a1 => exact cw_ (Kd.C_below d4.out HB.out)); (case a2 => exact d5.out); rintro e w' ⟨rfl, ⟨nd, rfl⟩⟩; (try first | exact ⟨rfl, _, World.drewN_drewN _ _ _⟩ | exact ⟨rfl, _, Eq.trans (World.drewN_drewN _ _ _) (congrArg (World.drewN _) (Nat.add_assoc _ _ _))⟩); obtain ⟨d6, d7, m2⟩ := Kd.R_slice a3.out; subst m2) | (go_at_call 27; (with_reducible refine (impl_MeanOf.calls k1 _ _ a5 c5 n3 a9 _ ?a1 ?a2 B4.out).mono ?_); (case a1 => exact cw_ (rr_ a3)); (case a2 => exact (Kd.R_reads' a3.out).2.1); rintro e w' ⟨m3, rfl, l3, ⟨nd, rfl⟩⟩; (try first | exact ⟨rfl, _, World.drewN_drewN _ _ _⟩ | exact ⟨rfl, _, Eq.trans (World.drewN_drewN _ _ _) (congrArg (World.drewN _) (Nat.add_assoc _ _ _))⟩)) | (go_at_call 28; (with_reducible refine (impl_Smooth.calls k1 _ _ a5 4607182418800017408 (cn .f64 4607182418800017408) a7 n4 _ ?a1 ?a2 ?b6 B5.out).mono ?_); (case a1 => exact cw_ (rr_ a3)); (case a2 => exact (Kd.R_reads' a3.out).2.1); (case b6 => exact rfl); rintro e D3 ⟨v148, rfl, m4, hb⟩; have c6 := mk_ (Kd.R_lower (Kd.R_new' m4 (Kd.R_lt (kx_ a3))) (below_size (hw_ HB))); replace a3 := mk_ (Kd.R_elder' (kx_ a3) (Kd.R_base m4) hb); replace HB := hk_ HB hb; (try clear hb); (try clear s0); (try clear hk); (try clear hi); (try clear m4))))
     (try simp only [Act.put, List.setIfInBounds_toArray, List.set_cons_zero, List.set_cons_succ])
     go_cut [79] (fun v79 wc => ∃ (kq : Nat) (g3 : Bool), v79 = .bool g3 ∧ Aside0 (laws_FnMeans.j2 kq ft130 a5 c5 a9 a7 g3 = some r) ∧ Aside0 (kq ≤ k1) ∧ Aside0 (Kd.R (Kd.fl .f64) 36 wc w.heap.size (fun k_ => some k_ ≠ (v148 : Value).ownBlock) (.slice d6 a5.length d7) a5) ∧ Aside0 (Kd.R (Kd.fl .f64) 36 wc w.heap.size (fun k_ => some k_ ≠ ((.slice d6 a5.length d7) : Value).ownBlock) v148 a7) ∧ Aside0 (Below w.heap.size w wc))
     case first =>
      have H := o7.out; clear o7; by_cases t9 : n4 = true
      ·subst t9; rw [if_pos rfl] at H
       by_cases m5 : (a7.length : Int) = (a5.length : Int)
       ·rw [if_pos m5] at H; have j0 : ((a7.length : Int) == (a5.length : Int)) = true := beq_iff_eq.mpr m5; have s1 : ((a7.length : Int) != (a5.length : Int)) = false := bne_eq_false_iff_eq.mpr m5
        have s2 : (a7.length == a5.length) = true := by first | simpa using m5 | (simp at m5 ⊢; omega)
        clear m5
        (first | rw [j0] | (simp only [i64_w, i32_w]; rw [j0]) | skip)
        by_cases m6 : (a9 != (decide (b4 > 0))) = true
        ·rw [if_pos m6] at H
         have s3 : (a9 != (decide (b4 > 0))) = true := m6
         (try (have s4 : decide (a9 = (decide (b4 > 0))) = false := by simpa using m6))
         (try (have s5 : (a9 == (decide (b4 > 0))) = false := by simpa using m6))
         (try (have D4 : ¬ (a9 = (decide (b4 > 0))) := by simpa using m6))
         clear m6
         have H' := mk_ H
         clear H; obtain ⟨E2, E3, B6⟩ := Kd.R_slice c6.out; subst B6; go_wp2
         repeat (go_quiet (fail); try go_wp2)
         go_meet
         case rel => exact ⟨_, (true), rf_, H', ⟨by have := g4.out; first | omega | exact Nat.le_refl _⟩, km_ a3 (fun _ hk => hk.2), km_ c6 (fun _ hk => hk.2), ⟨hw_ HB⟩⟩
        ·rw [if_neg m6] at H
         have s3 : (a9 != (decide (b4 > 0))) = false := by simpa using m6
         (try (have s4 : decide (a9 = (decide (b4 > 0))) = true := by simpa using m6))
         (try (have s5 : (a9 == (decide (b4 > 0))) = true := by simpa using m6))
         clear m6
         have H' := mk_ H
         clear H; obtain ⟨E4, E5, B7⟩ := Kd.R_slice c6.out; subst B7; go_wp2
         repeat (go_quiet (fail); try go_wp2)
         go_meet
         case rel => exact ⟨_, ((n3 != b4)), rf_, H', ⟨by have := g4.out; first | omega | exact Nat.le_refl _⟩, km_ a3 (fun _ hk => hk.2), km_ c6 (fun _ hk => hk.2), ⟨hw_ HB⟩⟩
       ·rw [if_neg m5] at H; have j0 : ((a7.length : Int) == (a5.length : Int)) = false := beq_eq_false_iff_ne.mpr m5; have s1 : ((a7.length : Int) != (a5.length : Int)) = true := bne_iff_ne.mpr m5
        have s2 : (a7.length == a5.length) = false := by first | simpa using m5 | (simp at m5 ⊢; omega)
        (first | rw [j0] | (simp only [i64_w, i32_w]; rw [j0]) | skip)
        have H' := mk_ H
        clear H; obtain ⟨E6, E7, B8⟩ := Kd.R_slice c6.out; subst B8; go_wp2
        repeat (go_quiet (fail); try go_wp2)
        go_meet
        case rel => exact ⟨_, (true), rf_, H', ⟨by have := g4.out; first | omega | exact Nat.le_refl _⟩, km_ a3 (fun _ hk => hk.2), km_ c6 (fun _ hk => hk.2), ⟨hw_ HB⟩⟩
      ·replace t9 := Bool.eq_false_iff.mpr t9; subst t9; rw [if_neg (show ¬ (false = true) by decide)] at H
       have H' := mk_ H
       clear H; go_wp2
       repeat (go_quiet (fail); try go_wp2)
       go_meet
       case rel => exact ⟨_, (true), rf_, H', ⟨by have := g4.out; first | omega | exact Nat.le_refl _⟩, km_ a3 (fun _ hk => hk.2), km_ c6 (fun _ hk => hk.2), ⟨hw_ HB⟩⟩
     case rest =>
      clear o7; (try clear c3); (try clear c8)
      obtain ⟨kq, g3, rfl, HA, d8, a3, a6, HB⟩ := hcut
      cases kq with
      | zero => exact absurd HA.out (by simp [laws_FnMeans.j2])
      | succ kj17 =>
       have H := HA.out; clear HA
       simp only [laws_FnMeans.j2] at H
       by_cases o3 : g3 = true
       ·subst o3; rw [if_pos rfl] at H
        obtain rfl := Option.some.inj H; go_wp2
        repeat (go_quiet (fail); try go_wp2)
        go_ret
        exact ⟨re_, hw_ HB⟩
       ·replace o3 := Bool.eq_false_iff.mpr o3; subst o3; rw [if_neg (show ¬ (false = true) by decide)] at H
        have H' := mk_ H
        clear H; go_wp2
        repeat (go_quiet (fail); try go_wp2)
        go_loopg [13, 14] kj17 (fun kq v13 v14 w' => ∃ (l4 : Bool) (a4 : Int), v13 = .bool l4 ∧ v14 = .int .i64 a4 ∧ Aside0 (laws_FnMeans.l1 kq ft130 a5 c5 a9 a7 l4 a4 = some r) ∧ Aside0 (kq ≤ kj17) ∧ Aside0 (Kd.R (Kd.fl .f64) 36 w' w.heap.size (fun k_ => some k_ ≠ (v148 : Value).ownBlock) (.slice d6 a5.length d7) a5) ∧ Aside0 (Kd.R (Kd.fl .f64) 36 w' w.heap.size (fun k_ => some k_ ≠ ((.slice d6 a5.length d7) : Value).ownBlock) v148 a7) ∧ Aside0 (Below w.heap.size w w'))
        case atStart => exact ⟨(false), (0), rf_, rf_, H', ⟨Nat.le_refl _⟩, kw_ a3, kw_ a6, ⟨hw_ HB⟩⟩
        case round =>
         clear H'; (try clear c3); (try clear c8); (try clear o3)
         obtain ⟨l4, a4, rfl, rfl, HA, n0, a3, a6, HB⟩ := hrel
         cases gk with
         | zero => exact absurd HA.out (by simp [laws_FnMeans.l1])
         | succ k3 =>
          have H := HA.out; clear HA
          simp only [laws_FnMeans.l1] at H
          by_cases n5 : a4 < (a5.length : Int)
          ·rw [if_pos n5] at H; have s6 : decide (a4 < (a5.length : Int)) = true := decide_eq_true n5; clear n5; have o8 := mk_ H; clear H
           go_upto_region 22 with (fail)
           repeat (go_quiet (fail); go_upto_region 22 with (fail))
           go_cut [13] (fun v13 wc => ∃ (kq : Nat) (c9 : Bool), v13 = .bool c9 ∧ Aside0 (laws_FnMeans.j4 kq ft130 a5 c5 a9 a7 c9 a4 = some r) ∧ Aside0 (kq ≤ k3) ∧ Aside0 (Kd.R (Kd.fl .f64) 36 wc w.heap.size (fun k_ => some k_ ≠ (v148 : Value).ownBlock) (.slice d6 a5.length d7) a5) ∧ Aside0 (Kd.R (Kd.fl .f64) 36 wc w.heap.size (fun k_ => some k_ ≠ ((.slice d6 a5.length d7) : Value).ownBlock) v148 a7) ∧ Aside0 (Below w.heap.size w wc))
           case first =>
            have H := o8.out; clear o8; by_cases y8 : l4 = true
            ·subst y8; rw [if_pos rfl] at H
             have H' := mk_ H
             clear H; go_wp2
             repeat (go_quiet (fail); try go_wp2)
             go_meet
             case rel => exact ⟨_, (true), rf_, H', ⟨by have := g4.out; have := d8.out; have := n0.out; first | omega | exact Nat.le_refl _⟩, kw_ a3, kw_ a6, ⟨hw_ HB⟩⟩
            ·replace y8 := Bool.eq_false_iff.mpr y8; subst y8; rw [if_neg (show ¬ (false = true) by decide)] at H; by_cases y9 : 0 ≤ a4
             ·rw [if_pos y9] at H; have o4 : decide (0 ≤ a4) = true := decide_eq_true y9; clear y9
              (first | rw [o4] | (simp only [i64_w, i32_w]; rw [o4]) | skip)
              obtain ⟨fr150_0, b7⟩ : ∃ y_ : Fl, y_ = (rdf .f64 a5 a4) := ⟨_, rfl⟩
              replace H : (laws_FnMeans.j4 k3 ft130 a5 c5 a9 a7 (fcmp .eql .f64 fr150_0 fr150_0) a4) = some r := by first | (rw [b7]; with_reducible exact H) | (have H2_ := (Option.bind_some _ _).symm.trans H; rw [b7]; with_reducible exact H2_) | (have H2_ := (Option.bind_some _ _).symm.trans H; with_reducible exact H2_) | with_reducible exact H | (rw [b7]; exact H) | exact H
              have Nfr150_0 := mk_ b7; clear b7
              have H' := mk_ H
              clear H
              have o9 : 0 ≤ (a4 : Int) := od_
              have p0 : a4 < (a5.length : Int) := od_
              obtain ⟨s7, b_fr150_0, B9, n6, hF150_0⟩ := Kd.at_fl (rr_ a3) a4 o9 p0
              have hF_fr150_0 := hF150_0.trans Nfr150_0.out.symm
              clear hF150_0; cases B9; replace o9 := eq_true o9; replace p0 := eq_true p0
              have p1 : 0 ≤ (a4 : Int) := od_
              have p2 : a4 < (a5.length : Int) := od_
              obtain ⟨s8, b_gr151_0, C0, n7, hF151_0⟩ := Kd.at_fl (rr_ a3) a4 p1 p2; clear hF151_0; obtain rfl : s7 = s8 := (by injection C0)
              have ef_ := Option.some.inj (n6.symm.trans n7)
              injection ef_ with _ ef_
              subst ef_; replace p1 := eq_true p1
              replace p2 := eq_true p2; go_wp2
              repeat (go_quiet (fail); try go_wp2)
              go_meet
              case rel => exact ⟨_, ((fcmp .eql .f64 fr150_0 fr150_0)), rf_, H', ⟨by have := g4.out; have := d8.out; have := n0.out; first | omega | exact Nat.le_refl _⟩, kw_ a3, kw_ a6, ⟨hw_ HB⟩⟩
             ·rw [if_neg y9] at H
              exact absurd H (by simp)
           case rest =>
            clear o8; (try clear c3); (try clear c8); (try clear o3); (try clear n5)
            obtain ⟨kq, c9, rfl, HA, m7, a3, a6, HB⟩ := hcut
            cases kq with
            | zero => exact absurd HA.out (by simp [laws_FnMeans.j4])
            | succ kj28 =>
             have H := HA.out; clear HA
             simp only [laws_FnMeans.j4] at H
             have p3 := mk_ H; clear H
             go_upto_region 23 with (fail)
             repeat (go_quiet (fail); go_upto_region 23 with (fail))
             go_cut [121] (fun v121 wc => ∃ (kq : Nat) (d0 : Bool), v121 = .bool d0 ∧ Aside0 (laws_FnMeans.j5 kq ft130 a5 c5 a9 a7 c9 a4 d0 = some r) ∧ Aside0 (kq ≤ kj28) ∧ Aside0 (Kd.R (Kd.fl .f64) 36 wc w.heap.size (fun k_ => some k_ ≠ (v148 : Value).ownBlock) (.slice d6 a5.length d7) a5) ∧ Aside0 (Kd.R (Kd.fl .f64) 36 wc w.heap.size (fun k_ => some k_ ≠ ((.slice d6 a5.length d7) : Value).ownBlock) v148 a7) ∧ Aside0 (Below w.heap.size w wc))
             case first =>
              have H := p3.out; clear p3; by_cases A1 : c9 = true
              ·subst A1; rw [if_pos rfl] at H
               by_cases A3 : 0 ≤ a4
               ·rw [if_pos A3] at H; have o5 : decide (0 ≤ a4) = true := decide_eq_true A3; clear A3
                (first | rw [o5] | (simp only [i64_w, i32_w]; rw [o5]) | skip)
                by_cases A5 : a4 < (a7.length : Int)
                ·rw [if_pos A5] at H; have D5 : decide (a4 < (a7.length : Int)) = true := decide_eq_true A5; clear A5
                 obtain ⟨fr152_0, b8⟩ : ∃ y_ : Fl, y_ = (rdf .f64 a7 a4) := ⟨_, rfl⟩
                 replace H : (if (fcmp .neq .f64 fr152_0 ft130) = true then (laws_FnMeans.j5 kj28 ft130 a5 c5 a9 a7 true a4 true) else (laws_FnMeans.j5 kj28 ft130 a5 c5 a9 a7 true a4 false)) = some r := by first | (rw [b8]; with_reducible exact H) | (have H2_ := (Option.bind_some _ _).symm.trans H; rw [b8]; with_reducible exact H2_) | (have H2_ := (Option.bind_some _ _).symm.trans H; with_reducible exact H2_) | with_reducible exact H | (rw [b8]; exact H) | exact H
                 have Nfr152_0 := mk_ b8; clear b8; by_cases q1 : (fcmp .neq .f64 fr152_0 ft130) = true
                 ·rw [if_pos q1] at H
                  have s9 : (fcmp .neq .f64 fr152_0 ft130) = true := q1
                  clear q1
                  have H' := mk_ H
                  clear H; obtain ⟨E8, E9, C1⟩ := Kd.R_slice a6.out; subst C1
                  have j8 : 0 ≤ (a4 : Int) := od_
                  have j9 : a4 < (a7.length : Int) := od_
                  obtain ⟨t0, b_fr152_0, p4, n8, hF152_0⟩ := Kd.at_fl (rr_ a6) a4 j8 j9
                  have hF_fr152_0 := hF152_0.trans Nfr152_0.out.symm
                  clear hF152_0; cases p4; replace j8 := eq_true j8; replace j9 := eq_true j9; go_wp2
                  repeat (go_quiet (fail); try go_wp2)
                  go_meet
                  case rel => exact ⟨_, (true), rf_, H', ⟨by have := g4.out; have := d8.out; have := n0.out; have := m7.out; first | omega | exact Nat.le_refl _⟩, kw_ a3, kw_ a6, ⟨hw_ HB⟩⟩
                 ·rw [if_neg q1] at H
                  have s9 : (fcmp .neq .f64 fr152_0 ft130) = false := by simpa using q1
                  clear q1
                  have H' := mk_ H
                  clear H; obtain ⟨F0, F1, C2⟩ := Kd.R_slice a6.out; subst C2
                  have j8 : 0 ≤ (a4 : Int) := od_
                  have j9 : a4 < (a7.length : Int) := od_
                  obtain ⟨t0, b_fr152_0, p4, n8, hF152_0⟩ := Kd.at_fl (rr_ a6) a4 j8 j9
                  have hF_fr152_0 := hF152_0.trans Nfr152_0.out.symm
                  clear hF152_0; cases p4; replace j8 := eq_true j8; replace j9 := eq_true j9; go_wp2
                  repeat (go_quiet (fail); try go_wp2)
                  go_meet
                  case rel => exact ⟨_, (false), rf_, H', ⟨by have := g4.out; have := d8.out; have := n0.out; have := m7.out; first | omega | exact Nat.le_refl _⟩, kw_ a3, kw_ a6, ⟨hw_ HB⟩⟩
                ·rw [if_neg A5] at H
                 exact absurd H (by simp)
               ·rw [if_neg A3] at H
                exact absurd H (by simp)
              ·replace A1 := Bool.eq_false_iff.mpr A1; subst A1; rw [if_neg (show ¬ (false = true) by decide)] at H; by_cases A6 : 0 ≤ a4
               ·rw [if_pos A6] at H; have D6 : decide (0 ≤ a4) = true := decide_eq_true A6; clear A6; by_cases A8 : a4 < (a7.length : Int)
                ·rw [if_pos A8] at H; have D7 : decide (a4 < (a7.length : Int)) = true := decide_eq_true A8; clear A8
                 obtain ⟨fr153_0, b9⟩ : ∃ y_ : Fl, y_ = (rdf .f64 a7 a4) := ⟨_, rfl⟩
                 replace H : (laws_FnMeans.j5 kj28 ft130 a5 c5 a9 a7 false a4 (fcmp .eql .f64 fr153_0 fr153_0)) = some r := by first | (rw [b9]; with_reducible exact H) | (have H2_ := (Option.bind_some _ _).symm.trans H; rw [b9]; with_reducible exact H2_) | (have H2_ := (Option.bind_some _ _).symm.trans H; with_reducible exact H2_) | with_reducible exact H | (rw [b9]; exact H) | exact H
                 have Nfr153_0 := mk_ b9; clear b9
                 have H' := mk_ H
                 clear H; obtain ⟨F2, F3, C3⟩ := Kd.R_slice a6.out; subst C3
                 have p5 : 0 ≤ (a4 : Int) := od_
                 have p6 : a4 < (a7.length : Int) := od_
                 obtain ⟨t1, b_fr153_0, C4, n9, hF153_0⟩ := Kd.at_fl (rr_ a6) a4 p5 p6
                 have hF_fr153_0 := hF153_0.trans Nfr153_0.out.symm
                 clear hF153_0; cases C4; replace p5 := eq_true p5; replace p6 := eq_true p6
                 have p7 : 0 ≤ (a4 : Int) := od_
                 have p8 : a4 < (a7.length : Int) := od_
                 obtain ⟨t2, b_gr154_0, C5, o0, hF154_0⟩ := Kd.at_fl (rr_ a6) a4 p7 p8; clear hF154_0; obtain rfl : t1 = t2 := (by injection C5)
                 have ef_ := Option.some.inj (n9.symm.trans o0)
                 injection ef_ with _ ef_
                 subst ef_; replace p7 := eq_true p7
                 replace p8 := eq_true p8; go_wp2
                 repeat (go_quiet (fail); try go_wp2)
                 go_meet
                 case rel => exact ⟨_, ((fcmp .eql .f64 fr153_0 fr153_0)), rf_, H', ⟨by have := g4.out; have := d8.out; have := n0.out; have := m7.out; first | omega | exact Nat.le_refl _⟩, kw_ a3, kw_ a6, ⟨hw_ HB⟩⟩
                ·rw [if_neg A8] at H
                 exact absurd H (by simp)
               ·rw [if_neg A6] at H
                exact absurd H (by simp)
             case rest =>
              clear p3; (try clear c3); (try clear c8); (try clear o3); (try clear n5)
              obtain ⟨kq, d0, rfl, HA, t3, a3, a6, HB⟩ := hcut
              cases kq with
              | zero => exact absurd HA.out (by simp [laws_FnMeans.j5])
              | succ kj31 =>
               have H := HA.out; clear HA
               simp only [laws_FnMeans.j5] at H
               by_cases A9 : d0 = true
               ·subst A9; rw [if_pos rfl] at H
                obtain rfl := Option.some.inj H; go_wp2
                repeat (go_quiet (fail); try go_wp2)
                go_ret
                exact ⟨re_, hw_ HB⟩
               ·replace A9 := Bool.eq_false_iff.mpr A9; subst A9; rw [if_neg (show ¬ (false = true) by decide)] at H
                have H' := mk_ H
                clear H; go_wp2
                repeat (go_quiet (fail); try go_wp2)
                go_roundg kj31
                case measure => have := g4.out; have := d8.out; have := n0.out; have := m7.out; have := t3.out; omega
                case rel => exact ⟨(c9), (wrap64 (a4 + 1)), rf_, rf_, H', ⟨by have := g4.out; have := d8.out; have := n0.out; have := m7.out; have := t3.out; omega⟩, kw_ a3, kw_ a6, ⟨hw_ HB⟩⟩
          ·rw [if_neg n5] at H; have s6 : decide (a4 < (a5.length : Int)) = false := decide_eq_false n5; clear n5
           obtain ⟨o1, j3⟩ : ∃ y_ : List (S60), y_ = (([(⟨(cn .f64 4607182418800017408), (cn .f64 0), (cn .f64 0), (cn .f64 0)⟩ : S60), (⟨(cn .f64 4617315517961601024), (cn .f64 0), (cn .f64 0), (cn .f64 0)⟩ : S60)] : List (S60))) := ⟨_, rfl⟩
           replace H : ((impl_FirstOver.f k3 o1 (cn .f64 4611686018427387904)).bind fun d2 => (if a9 = true then (if (fcmp .eql .f64 c5 ft130) = true then (laws_FnMeans.j6 k3 (d2 == 1)) else (laws_FnMeans.j6 k3 false)) else (laws_FnMeans.j6 k3 (d2 == 1)))) = some r := by first | (rw [j3]; with_reducible exact H) | (have H2_ := (Option.bind_some _ _).symm.trans H; rw [j3]; with_reducible exact H2_) | (have H2_ := (Option.bind_some _ _).symm.trans H; with_reducible exact H2_) | with_reducible exact H | (rw [j3]; exact H) | exact H
           have g2 := mk_ j3; clear j3; replace H := Option.bind_eq_some_iff.mp H; obtain ⟨d2, t4, H⟩ := H; (try dsimp only at H); have C6 := mk_ t4; clear t4; have p9 := mk_ H; clear H
           go_upto_region 26 with (first | ((with_reducible refine gd_ 124 rfl ?_); (try (refine gate_guard (by rfl) ?_; dsimp only)); refine Kd.R_lit k60 _ 60 ?hg (N := 124) ?hd (xs := ([(⟨(cn .f64 4607182418800017408), (cn .f64 0), (cn .f64 0), (cn .f64 0)⟩ : S60), (⟨(cn .f64 4617315517961601024), (cn .f64 0), (cn .f64 0), (cn .f64 0)⟩ : S60)] : List (S60))) (inner := [.float .f64 4607182418800017408, .float .f64 0, .float .f64 0, .float .f64 0, .float .f64 4617315517961601024, .float .f64 0, .float .f64 0, .float .f64 0]) (ok := fun _ => True) (okp := fun _ => True) ?hr ?hp (fun _ hk => hk) trivial (Below.refl _ _) (Nat.le_refl _) (by simp) ?_; (case hd => rfl); (case hg => rfl); (case hr => exact hr_); (case hp => exact (Reps.c4 (show Kd.M k60 _ _ _ (⟨(cn .f64 4607182418800017408), (cn .f64 0), (cn .f64 0), (cn .f64 0)⟩ : S60) [.float .f64 4607182418800017408, .float .f64 0, .float .f64 0, .float .f64 0] from (k60_mkM _ _ _ (⟨(cn .f64 4607182418800017408), (cn .f64 0), (cn .f64 0), (cn .f64 0)⟩ : S60) rfl rfl rfl rfl)) (Reps.c4 (show Kd.M k60 _ _ _ (⟨(cn .f64 4617315517961601024), (cn .f64 0), (cn .f64 0), (cn .f64 0)⟩ : S60) [.float .f64 4617315517961601024, .float .f64 0, .float .f64 0, .float .f64 0] from (k60_mkM _ _ _ (⟨(cn .f64 4617315517961601024), (cn .f64 0), (cn .f64 0), (cn .f64 0)⟩ : S60) rfl rfl rfl rfl)) (Reps.none _ _)))); intro v156 D8 c1 hb hg_ hnew_; clear hg_ hnew_; (first | rw [← g2.out] at c1 | (simp only [Int.reduceToNat] at c1; rw [← g2.out] at c1)); replace a3 := rk_ a3 hb; replace a6 := rk_ a6 hb; have a8 := mk_ (Kd.R_lower c1 (below_size (hw_ HB))); replace HB := hk_ HB hb; clear hb c1; obtain ⟨t5, t6, m8⟩ := Kd.R_slice a8.out; subst m8) | (go_at_call 29; (with_reducible refine (impl_FirstOver.calls k3 _ _ o1 4611686018427387904 (cn .f64 4611686018427387904) d2 _ ?a1 ?a2 ?b6 C6.out).mono ?_); (case a1 => exact cw_ (rr_ a8)); (case a2 => exact (Kd.R_reads' a8.out).2.1); (case b6 => exact rfl); rintro e D9 ⟨rfl, hb⟩; replace a3 := rk_ a3 hb; replace a6 := rk_ a6 hb; replace a8 := rk_ a8 hb; replace HB := hk_ HB hb; (try clear hb); (try clear s0); (try clear hk); (try clear hi)))
           repeat (go_quiet (first | ((with_reducible refine gd_ 124 rfl ?_); (try (refine gate_guard (by rfl) ?_; dsimp only)); refine Kd.R_lit k60 _ 60 ?hg (N := 124) ?hd (xs := ([(⟨(cn .f64 4607182418800017408), (cn .f64 0), (cn .f64 0), (cn .f64 0)⟩ : S60), (⟨(cn .f64 4617315517961601024), (cn .f64 0), (cn .f64 0), (cn .f64 0)⟩ : S60)] : List (S60))) (inner := [.float .f64 4607182418800017408, .float .f64 0, .float .f64 0, .float .f64 0, .float .f64 4617315517961601024, .float .f64 0, .float .f64 0, .float .f64 0]) (ok := fun _ => True) (okp := fun _ => True) ?hr ?hp (fun _ hk => hk) trivial (Below.refl _ _) (Nat.le_refl _) (by simp) ?_; (case hd => rfl); (case hg => rfl); (case hr => exact hr_); (case hp => exact (Reps.c4 (show Kd.M k60 _ _ _ (⟨(cn .f64 4607182418800017408), (cn .f64 0), (cn .f64 0), (cn .f64 0)⟩ : S60) [.float .f64 4607182418800017408, .float .f64 0, .float .f64 0, .float .f64 0] from (k60_mkM _ _ _ (⟨(cn .f64 4607182418800017408), (cn .f64 0), (cn .f64 0), (cn .f64 0)⟩ : S60) rfl rfl rfl rfl)) (Reps.c4 (show Kd.M k60 _ _ _ (⟨(cn .f64 4617315517961601024), (cn .f64 0), (cn .f64 0), (cn .f64 0)⟩ : S60) [.float .f64 4617315517961601024, .float .f64 0, .float .f64 0, .float .f64 0] from (k60_mkM _ _ _ (⟨(cn .f64 4617315517961601024), (cn .f64 0), (cn .f64 0), (cn .f64 0)⟩ : S60) rfl rfl rfl rfl)) (Reps.none _ _)))); intro v156 D8 c1 hb hg_ hnew_; clear hg_ hnew_; (first | rw [← g2.out] at c1 | (simp only [Int.reduceToNat] at c1; rw [← g2.out] at c1)); replace a3 := rk_ a3 hb; replace a6 := rk_ a6 hb; have a8 := mk_ (Kd.R_lower c1 (below_size (hw_ HB))); replace HB := hk_ HB hb; clear hb c1; obtain ⟨t5, t6, m8⟩ := Kd.R_slice a8.out; subst m8) | (go_at_call 29; (with_reducible refine (impl_FirstOver.calls k3 _ _ o1 4611686018427387904 (cn .f64 4611686018427387904) d2 _ ?a1 ?a2 ?b6 C6.out).mono ?_); (case a1 => exact cw_ (rr_ a8)); (case a2 => exact (Kd.R_reads' a8.out).2.1); (case b6 => exact rfl); rintro e D9 ⟨rfl, hb⟩; replace a3 := rk_ a3 hb; replace a6 := rk_ a6 hb; replace a8 := rk_ a8 hb; replace HB := hk_ HB hb; (try clear hb); (try clear s0); (try clear hk); (try clear hi))); go_upto_region 26 with (first | ((with_reducible refine gd_ 124 rfl ?_); (try (refine gate_guard (by rfl) ?_; dsimp only)); refine Kd.R_lit k60 _ 60 ?hg (N := 124) ?hd (xs := ([(⟨(cn .f64 4607182418800017408), (cn .f64 0), (cn .f64 0), (cn .f64 0)⟩ : S60), (⟨(cn .f64 4617315517961601024), (cn .f64 0), (cn .f64 0), (cn .f64 0)⟩ : S60)] : List (S60))) (inner := [.float .f64 4607182418800017408, .float .f64 0, .float .f64 0, .float .f64 0, .float .f64 4617315517961601024, .float .f64 0, .float .f64 0, .float .f64 0]) (ok := fun _ => True) (okp := fun _ => True) ?hr ?hp (fun _ hk => hk) trivial (Below.refl _ _) (Nat.le_refl _) (by simp) ?_; (case hd => rfl); (case hg => rfl); (case hr => exact hr_); (case hp => exact (Reps.c4 (show Kd.M k60 _ _ _ (⟨(cn .f64 4607182418800017408), (cn .f64 0), (cn .f64 0), (cn .f64 0)⟩ : S60) [.float .f64 4607182418800017408, .float .f64 0, .float .f64 0, .float .f64 0] from (k60_mkM _ _ _ (⟨(cn .f64 4607182418800017408), (cn .f64 0), (cn .f64 0), (cn .f64 0)⟩ : S60) rfl rfl rfl rfl)) (Reps.c4 (show Kd.M k60 _ _ _ (⟨(cn .f64 4617315517961601024), (cn .f64 0), (cn .f64 0), (cn .f64 0)⟩ : S60) [.float .f64 4617315517961601024, .float .f64 0, .float .f64 0, .float .f64 0] from (k60_mkM _ _ _ (⟨(cn .f64 4617315517961601024), (cn .f64 0), (cn .f64 0), (cn .f64 0)⟩ : S60) rfl rfl rfl rfl)) (Reps.none _ _)))); intro v156 D8 c1 hb hg_ hnew_; clear hg_ hnew_; (first | rw [← g2.out] at c1 | (simp only [Int.reduceToNat] at c1; rw [← g2.out] at c1)); replace a3 := rk_ a3 hb; replace a6 := rk_ a6 hb; have a8 := mk_ (Kd.R_lower c1 (below_size (hw_ HB))); replace HB := hk_ HB hb; clear hb c1; obtain ⟨t5, t6, m8⟩ := Kd.R_slice a8.out; subst m8) | (go_at_call 29; (with_reducible refine (impl_FirstOver.calls k3 _ _ o1 4611686018427387904 (cn .f64 4611686018427387904) d2 _ ?a1 ?a2 ?b6 C6.out).mono ?_); (case a1 => exact cw_ (rr_ a8)); (case a2 => exact (Kd.R_reads' a8.out).2.1); (case b6 => exact rfl); rintro e D9 ⟨rfl, hb⟩; replace a3 := rk_ a3 hb; replace a6 := rk_ a6 hb; replace a8 := rk_ a8 hb; replace HB := hk_ HB hb; (try clear hb); (try clear s0); (try clear hk); (try clear hi))))
           (try simp only [Act.put, List.setIfInBounds_toArray, List.set_cons_zero, List.set_cons_succ])
           go_cut [2] (fun v2 wc => ∃ (kq : Nat) (m9 : Bool), v2 = .bool m9 ∧ Aside0 (laws_FnMeans.j6 kq m9 = some r) ∧ Aside0 (kq ≤ k3) ∧ Aside0 (Below w.heap.size w wc))
           case first =>
            have H := p9.out; clear p9; by_cases B0 : a9 = true
            ·subst B0; rw [if_pos rfl] at H
             by_cases q2 : (fcmp .eql .f64 c5 ft130) = true
             ·rw [if_pos q2] at H
              have j7 : (fcmp .eql .f64 c5 ft130) = true := q2
              clear q2
              (first | rw [j7] | (simp only [i64_w, i32_w]; rw [j7]) | skip)
              have H' := mk_ H
              clear H; go_wp2
              repeat (go_quiet (fail); try go_wp2)
              go_meet
              case rel => exact ⟨_, ((d2 == 1)), rf_, H', ⟨by have := g4.out; have := d8.out; have := n0.out; first | omega | exact Nat.le_refl _⟩, ⟨hw_ HB⟩⟩
             ·rw [if_neg q2] at H
              have j7 : (fcmp .eql .f64 c5 ft130) = false := by simpa using q2
              clear q2
              (first | rw [j7] | (simp only [i64_w, i32_w]; rw [j7]) | skip)
              have H' := mk_ H
              clear H; go_wp2
              repeat (go_quiet (fail); try go_wp2)
              go_meet
              case rel => exact ⟨_, (false), rf_, H', ⟨by have := g4.out; have := d8.out; have := n0.out; first | omega | exact Nat.le_refl _⟩, ⟨hw_ HB⟩⟩
            ·replace B0 := Bool.eq_false_iff.mpr B0; subst B0; rw [if_neg (show ¬ (false = true) by decide)] at H
             have H' := mk_ H
             clear H; go_wp2
             repeat (go_quiet (fail); try go_wp2)
             go_meet
             case rel => exact ⟨_, ((d2 == 1)), rf_, H', ⟨by have := g4.out; have := d8.out; have := n0.out; first | omega | exact Nat.le_refl _⟩, ⟨hw_ HB⟩⟩
           case rest =>
            clear p9; (try clear c3); (try clear c8); (try clear o3); (try clear n5)
            obtain ⟨kq, m9, rfl, HA, F4, HB⟩ := hcut
            cases kq with
            | zero => exact absurd HA.out (by simp [laws_FnMeans.j6])
            | succ kj43 =>
             have H := HA.out; clear HA
             simp only [laws_FnMeans.j6] at H
             obtain rfl := Option.some.inj H; go_wp2
             repeat (go_quiet (fail); try go_wp2)
             go_ret
             exact ⟨re_, hw_ HB⟩

/-- THE ONE PURE STATEMENT of laws_FnMeans: yours. -/
def laws_FnMeans.Pure : Prop := ∀ (l0 : List Int), l0.length ≤ maxLen → l0.length * 1 ≤ 140737488351232 → (∀ x ∈ l0, (Lit.int .u8 x).wf = true) → ∃ k, laws_FnMeans.f k l0 = some true
theorem laws_FnMeans.walk (P : laws_FnMeans.Pure) (a0 : Option Addr) (len0 cap0 : Nat) (z0 : List Int) (w : World) (w0 : (a0 = none ∧ len0 = 0 ∧ cap0 = 0 ∧ z0 = []) ∨ ∃ x, a0 = some x ∧ len0 ≤ cap0 ∧ cap0 ≤ maxLen ∧ z0.length = cap0 ∧ (∀ i, i < z0.length → w.cell? (x.add i) = some (.int .u8 (z0.getD i 0))) ∧ ∀ n ∈ z0, (Lit.int .u8 n).wf = true) (y0 : len0 * 1 ≤ 140737488351232) :
  Calls Try.prog 6 #[.slice a0 len0 cap0] w fun e w' => e = .returned (.bool true) ∧ Below w.heap.size w w' := by
 obtain ⟨l0, rfl, hr0, hm0, hw0, hc0⟩ := ReadsInt.ofRowC w0
 obtain ⟨k, h⟩ := P l0 hm0 y0 hw0
 refine (laws_FnMeans.calls k _ _ l0 true w (Kd.C_of_reads (d := (0 : Int)) (h1 := fun _ => rfl) hr0) hc0 h).mono ?_
 rintro e w' ⟨rfl, hd⟩
 exact ⟨rfl, hd⟩

end Go.Proofs.Ytkginilghcepbaa.QFnMeans
-- squeezed
