/- Lean functions that tell what the Go functions used by one law answer, and for each a proof that the Go code comes to just these answers; no condition. Printed by this session's own program over the kit's printer. -/
import Derived.Test.YtkginilghcepbaaWSq
import Derived.Test.YtkginilghcepbaaQFnFlownx0
import Derived.Test.YtkginilghcepbaaQFnFlownx1
import Derived.Test.YtkginilghcepbaaQFnFlownx2
import Derived.Test.YtkginilghcepbaaQFnFlownx4
import Derived.Test.YtkginilghcepbaaQFnFlownx5
namespace Go.Proofs.Ytkginilghcepbaa.QFnFlown
open Go.RowKit Go.Proofs.YtkginilghcepbaaW.PrintWords Go.Proofs.YtkginilghcepbaaW.PrintLast Go.Proofs.YtkginilghcepbaaW.PrintMore
attribute [local go_sem] max2_int min2_int max_two min_two max_three min_three max_four min_four   -- for this text's walks alone
attribute [local go_sem high] go_eql go_neq go_lss go_leq go_gtr go_geq go_store   -- for this text's walks alone
set_option linter.unusedVariables false
set_option linter.unusedSimpArgs false

attribute [local go_sem high] eqA60
/-! ### laws_FnFlown: function 10 -/
mutual
def laws_FnFlown.j0 : Nat → List Int → List (Fl) → Fl → List (S60) → Bool → Bool → Fl → Fl → Fl → Fl → Fl → Option (Bool)
 | 0, _, _, _, _, _, _, _, _, _, _, _ => none
 | k + 1, x0, x5, x6, x7, x8, x58, o2, o3, o4, o5, o6 => if x58 = true then (some false) else (if x8 = true then (laws_FnFlown.j1 k x0 x5 x6 x7 (wrap64 ((x7.length : Int) / 2)) (decide ((wrap64 ((x7.length : Int) / 2)) > 0)) o2 o3 o4 o5 o6) else (laws_FnFlown.j1 k x0 x5 x6 x7 (wrap64 ((x7.length : Int) / 2)) false o2 o3 o4 o5 o6))
def laws_FnFlown.j1 : Nat → List Int → List (Fl) → Fl → List (S60) → Int → Bool → Fl → Fl → Fl → Fl → Fl → Option (Bool)
 | 0, _, _, _, _, _, _, _, _, _, _, _ => none
 | k + 1, x0, x5, x6, x7, m9, x66, o2, o3, o4, o5, o6 => if x66 = true then (if 0 ≤ (wrap64 (m9 - 1)) then (if (wrap64 (m9 - 1)) < (x7.length : Int) then (if 0 ≤ m9 then (if m9 ≤ (x5.length : Int) then ((impl_Fly.f k ((rd_T60 x7 (wrap64 (m9 - 1))).f0) ((rd_T60 x7 (wrap64 (m9 - 1))).f1) ((rd_T60 x7 (wrap64 (m9 - 1))).f2) ((rd_T60 x7 (wrap64 (m9 - 1))).f3) o2 o3 o4 o5 o6 (x5.drop (m9 : Int).toNat) x6).bind fun c6 => (if c6.2 = true then (laws_FnFlown.j2 k x0 x7 m9 c6.1 ((c6.1.length : Int) != (wrap64 ((x7.length : Int) - m9)))) else (laws_FnFlown.j2 k x0 x7 m9 c6.1 true))) else (none)) else (none)) else (none)) else (none)) else (laws_FnFlown.j5 k x0)
def laws_FnFlown.j5 : Nat → List Int → Option (Bool)
 | 0, _ => none
 | k + 1, x0 => (laws_at.f x0 1).bind fun D9 => ((some (fint .f64 D9 : Fl)).bind fun ft402 => ((laws_at.f x0 2).bind fun t8 => ((some (fint .f64 t8 : Fl)).bind fun ft404 => ((impl_StepOnce.f ft402 ft404 (cn .f64 0) (cn .f64 0) (cn .f64 0) (cn .f64 0) (cn .f64 0) (cn .f64 0) (cn .f64 0) (cn .f64 0) (cn .f64 4602678819172646912)).bind fun d2 => ((impl_Load5.f k ft402 ft404 (cn .f64 0) (cn .f64 0) (cn .f64 0) (cn .f64 0) (cn .f64 4607182418800017408) (cn .f64 0) (cn .f64 4607182418800017408)).bind fun n8 => (if (fcmp .eql .f64 d2.1 ft402 && (fcmp .eql .f64 d2.2.1 ft404 && (fcmp .eql .f64 d2.2.2.1 (cn .f64 0) && (fcmp .eql .f64 d2.2.2.2 (cn .f64 0))))) = true then ((impl_Near5.f k d2.1 d2.2.1 d2.2.2.1 d2.2.2.2 ft402 ft404 (cn .f64 0) (cn .f64 0) (cn .f64 0)).bind fun t9 => (if t9 = true then (if n8.2 = true then (laws_FnFlown.j6 k (fcmp .eql .f64 n8.1 (fop .mul .f64 ft402 ft402))) else (laws_FnFlown.j6 k false)) else (laws_FnFlown.j6 k false))) else (laws_FnFlown.j6 k false)))))))
def laws_FnFlown.j6 : Nat → Bool → Option (Bool)
 | 0, _ => none
 | k + 1, x2 => some x2
def laws_FnFlown.j2 : Nat → List Int → List (S60) → Int → List (S60) → Bool → Option (Bool)
 | 0, _, _, _, _, _ => none
 | k + 1, x0, x7, m9, D6, x91 => if x91 = true then (some false) else (laws_FnFlown.l0 k x0 x7 m9 D6 0)
def laws_FnFlown.l0 : Nat → List Int → List (S60) → Int → List (S60) → Int → Option (Bool)
 | 0, _, _, _, _, _ => none
 | k + 1, x0, x7, m9, D6, s3 => if s3 < (D6.length : Int) then (if 0 ≤ s3 then (if 0 ≤ (wrap64 (m9 + s3)) then (if (wrap64 (m9 + s3)) < (x7.length : Int) then ((laws_sameBits.f ((rd_T60 D6 s3).f0) ((rd_T60 x7 (wrap64 (m9 + s3))).f0)).bind fun h7 => (if h7 = true then ((laws_sameBits.f ((rd_T60 D6 s3).f1) ((rd_T60 x7 (wrap64 (m9 + s3))).f1)).bind fun h8 => (if h8 = true then ((laws_sameBits.f ((rd_T60 D6 s3).f2) ((rd_T60 x7 (wrap64 (m9 + s3))).f2)).bind fun h9 => (if h9 = true then ((laws_sameBits.f ((rd_T60 D6 s3).f3) ((rd_T60 x7 (wrap64 (m9 + s3))).f3)).bind fun h6 => (laws_FnFlown.j4 k x0 x7 m9 D6 s3 (!h6))) else (laws_FnFlown.j4 k x0 x7 m9 D6 s3 true))) else (laws_FnFlown.j4 k x0 x7 m9 D6 s3 true))) else (laws_FnFlown.j4 k x0 x7 m9 D6 s3 true))) else (none)) else (none)) else (none)) else (laws_FnFlown.j5 k x0)
def laws_FnFlown.j4 : Nat → List Int → List (S60) → Int → List (S60) → Int → Bool → Option (Bool)
 | 0, _, _, _, _, _, _ => none
 | k + 1, x0, x7, m9, D6, s3, ak9 => if ak9 = true then (some false) else (laws_FnFlown.l0 k x0 x7 m9 D6 (wrap64 (s3 + 1)))
end
def laws_FnFlown.f (k : Nat) (l0 : List Int) : Option (Bool) := (laws_big.f l0).bind fun E0 => (if E0 = true then (some true) else ((spec_DrawFly.f k l0).bind fun a7 => ((impl_Fly.f k a7.1 a7.2.1 a7.2.2.1 a7.2.2.2.1 a7.2.2.2.2.1 a7.2.2.2.2.2.1 a7.2.2.2.2.2.2.1 a7.2.2.2.2.2.2.2.1 a7.2.2.2.2.2.2.2.2.1 a7.2.2.2.2.2.2.2.2.2.1 a7.2.2.2.2.2.2.2.2.2.2).bind fun g0 => ((spec_Fly.f k a7.1 a7.2.1 a7.2.2.1 a7.2.2.2.1 a7.2.2.2.2.1 a7.2.2.2.2.2.1 a7.2.2.2.2.2.2.1 a7.2.2.2.2.2.2.2.1 a7.2.2.2.2.2.2.2.2.1 a7.2.2.2.2.2.2.2.2.2.1 a7.2.2.2.2.2.2.2.2.2.2).bind fun E1 => (if (g0.2 != E1.2) = true then (laws_FnFlown.j0 k l0 a7.2.2.2.2.2.2.2.2.2.1 a7.2.2.2.2.2.2.2.2.2.2 g0.1 g0.2 true a7.2.2.2.2.1 a7.2.2.2.2.2.1 a7.2.2.2.2.2.2.1 a7.2.2.2.2.2.2.2.1 a7.2.2.2.2.2.2.2.2.1) else (if g0.2 = true then (laws_FnFlown.j0 k l0 a7.2.2.2.2.2.2.2.2.2.1 a7.2.2.2.2.2.2.2.2.2.2 g0.1 g0.2 ((g0.1.length : Int) != (a7.2.2.2.2.2.2.2.2.2.1.length : Int)) a7.2.2.2.2.1 a7.2.2.2.2.2.1 a7.2.2.2.2.2.2.1 a7.2.2.2.2.2.2.2.1 a7.2.2.2.2.2.2.2.2.1) else (laws_FnFlown.j0 k l0 a7.2.2.2.2.2.2.2.2.2.1 a7.2.2.2.2.2.2.2.2.2.2 g0.1 g0.2 false a7.2.2.2.2.1 a7.2.2.2.2.2.1 a7.2.2.2.2.2.2.1 a7.2.2.2.2.2.2.2.1 a7.2.2.2.2.2.2.2.2.1)))))))
theorem laws_FnFlown.mono_l : ∀ k, (∀ y0 y1 y2 y3 y4 y5 y6 y7 y8 y9 y10, LeO (laws_FnFlown.j0 k y0 y1 y2 y3 y4 y5 y6 y7 y8 y9 y10) (laws_FnFlown.j0 (k + 1) y0 y1 y2 y3 y4 y5 y6 y7 y8 y9 y10)) ∧ (∀ y0 y1 y2 y3 y4 y5 y6 y7 y8 y9 y10, LeO (laws_FnFlown.j1 k y0 y1 y2 y3 y4 y5 y6 y7 y8 y9 y10) (laws_FnFlown.j1 (k + 1) y0 y1 y2 y3 y4 y5 y6 y7 y8 y9 y10)) ∧ (∀ y0, LeO (laws_FnFlown.j5 k y0) (laws_FnFlown.j5 (k + 1) y0)) ∧ (∀ y0, LeO (laws_FnFlown.j6 k y0) (laws_FnFlown.j6 (k + 1) y0)) ∧ (∀ y0 y1 y2 y3 y4, LeO (laws_FnFlown.j2 k y0 y1 y2 y3 y4) (laws_FnFlown.j2 (k + 1) y0 y1 y2 y3 y4)) ∧ (∀ y0 y1 y2 y3 y4, LeO (laws_FnFlown.l0 k y0 y1 y2 y3 y4) (laws_FnFlown.l0 (k + 1) y0 y1 y2 y3 y4)) ∧ (∀ y0 y1 y2 y3 y4 y5, LeO (laws_FnFlown.j4 k y0 y1 y2 y3 y4 y5) (laws_FnFlown.j4 (k + 1) y0 y1 y2 y3 y4 y5))
 | 0 => ⟨fun _ _ _ _ _ _ _ _ _ _ _ r h => by simp [laws_FnFlown.j0] at h, fun _ _ _ _ _ _ _ _ _ _ _ r h => by simp [laws_FnFlown.j1] at h, fun _ r h => by simp [laws_FnFlown.j5] at h, fun _ r h => by simp [laws_FnFlown.j6] at h, fun _ _ _ _ _ r h => by simp [laws_FnFlown.j2] at h, fun _ _ _ _ _ r h => by simp [laws_FnFlown.l0] at h, fun _ _ _ _ _ _ r h => by simp [laws_FnFlown.j4] at h⟩
 | k + 1 => by
  obtain ⟨s4, s5, s6, s7, s8, s9, t0⟩ := laws_FnFlown.mono_l k
  refine ⟨?_, ?_, ?_, ?_, ?_, ?_, ?_⟩
  ·intro y0 y1 y2 y3 y4 y5 y6 y7 y8 y9 y10
   unfold laws_FnFlown.j0
   repeat' first
   | (with_reducible exact s4 _ _ _ _ _ _ _ _ _ _ _)
   | (with_reducible exact s5 _ _ _ _ _ _ _ _ _ _ _)
   | (with_reducible exact s6 _)
   | (with_reducible exact s7 _)
   | (with_reducible exact s8 _ _ _ _ _)
   | (with_reducible exact s9 _ _ _ _ _)
   | (with_reducible exact t0 _ _ _ _ _ _)
   | (with_reducible exact impl_Fly.mono _ _ _ _ _ _ _ _ _ _ _ _)
   | (with_reducible exact impl_Load5.mono _ _ _ _ _ _ _ _ _ _)
   | (with_reducible exact impl_Near5.mono _ _ _ _ _ _ _ _ _ _)
   | (with_reducible exact spec_DrawFly.mono _ _)
   | (with_reducible exact spec_Fly.mono _ _ _ _ _ _ _ _ _ _ _ _)
   | (with_reducible exact LeO.refl _)
   | (with_reducible exact LeO.none _)
   | (with_reducible refine LeO.ite ?_ ?_)
   | (with_reducible refine LeO.bind ?_ (fun _ => ?_))
   | exact s4 _ _ _ _ _ _ _ _ _ _ _
   | exact s5 _ _ _ _ _ _ _ _ _ _ _
   | exact s6 _
   | exact s7 _
   | exact s8 _ _ _ _ _
   | exact s9 _ _ _ _ _
   | exact t0 _ _ _ _ _ _
   | exact impl_Fly.mono _ _ _ _ _ _ _ _ _ _ _ _
   | exact impl_Load5.mono _ _ _ _ _ _ _ _ _ _
   | exact impl_Near5.mono _ _ _ _ _ _ _ _ _ _
   | exact spec_DrawFly.mono _ _
   | exact spec_Fly.mono _ _ _ _ _ _ _ _ _ _ _ _
   | exact LeO.none _
   | refine LeO.ite ?_ ?_
   | refine LeO.bind ?_ (fun _ => ?_)
  ·intro y0 y1 y2 y3 y4 y5 y6 y7 y8 y9 y10
   unfold laws_FnFlown.j1
   repeat' first
   | (with_reducible exact s4 _ _ _ _ _ _ _ _ _ _ _)
   | (with_reducible exact s5 _ _ _ _ _ _ _ _ _ _ _)
   | (with_reducible exact s6 _)
   | (with_reducible exact s7 _)
   | (with_reducible exact s8 _ _ _ _ _)
   | (with_reducible exact s9 _ _ _ _ _)
   | (with_reducible exact t0 _ _ _ _ _ _)
   | (with_reducible exact impl_Fly.mono _ _ _ _ _ _ _ _ _ _ _ _)
   | (with_reducible exact impl_Load5.mono _ _ _ _ _ _ _ _ _ _)
   | (with_reducible exact impl_Near5.mono _ _ _ _ _ _ _ _ _ _)
   | (with_reducible exact spec_DrawFly.mono _ _)
   | (with_reducible exact spec_Fly.mono _ _ _ _ _ _ _ _ _ _ _ _)
   | (with_reducible exact LeO.refl _)
   | (with_reducible exact LeO.none _)
   | (with_reducible refine LeO.ite ?_ ?_)
   | (with_reducible refine LeO.bind ?_ (fun _ => ?_))
   | exact s4 _ _ _ _ _ _ _ _ _ _ _
   | exact s5 _ _ _ _ _ _ _ _ _ _ _
   | exact s6 _
   | exact s7 _
   | exact s8 _ _ _ _ _
   | exact s9 _ _ _ _ _
   | exact t0 _ _ _ _ _ _
   | exact impl_Fly.mono _ _ _ _ _ _ _ _ _ _ _ _
   | exact impl_Load5.mono _ _ _ _ _ _ _ _ _ _
   | exact impl_Near5.mono _ _ _ _ _ _ _ _ _ _
   | exact spec_DrawFly.mono _ _
   | exact spec_Fly.mono _ _ _ _ _ _ _ _ _ _ _ _
   | exact LeO.none _
   | refine LeO.ite ?_ ?_
   | refine LeO.bind ?_ (fun _ => ?_)
  ·intro y0
   unfold laws_FnFlown.j5
   repeat' first
   | (with_reducible exact s4 _ _ _ _ _ _ _ _ _ _ _)
   | (with_reducible exact s5 _ _ _ _ _ _ _ _ _ _ _)
   | (with_reducible exact s6 _)
   | (with_reducible exact s7 _)
   | (with_reducible exact s8 _ _ _ _ _)
   | (with_reducible exact s9 _ _ _ _ _)
   | (with_reducible exact t0 _ _ _ _ _ _)
   | (with_reducible exact impl_Fly.mono _ _ _ _ _ _ _ _ _ _ _ _)
   | (with_reducible exact impl_Load5.mono _ _ _ _ _ _ _ _ _ _)
   | (with_reducible exact impl_Near5.mono _ _ _ _ _ _ _ _ _ _)
   | (with_reducible exact spec_DrawFly.mono _ _)
   | (with_reducible exact spec_Fly.mono _ _ _ _ _ _ _ _ _ _ _ _)
   | (with_reducible exact LeO.refl _)
   | (with_reducible exact LeO.none _)
   | (with_reducible refine LeO.ite ?_ ?_)
   | (with_reducible refine LeO.bind ?_ (fun _ => ?_))
   | exact s4 _ _ _ _ _ _ _ _ _ _ _
   | exact s5 _ _ _ _ _ _ _ _ _ _ _
   | exact s6 _
   | exact s7 _
   | exact s8 _ _ _ _ _
   | exact s9 _ _ _ _ _
   | exact t0 _ _ _ _ _ _
   | exact impl_Fly.mono _ _ _ _ _ _ _ _ _ _ _ _
   | exact impl_Load5.mono _ _ _ _ _ _ _ _ _ _
   | exact impl_Near5.mono _ _ _ _ _ _ _ _ _ _
   | exact spec_DrawFly.mono _ _
   | exact spec_Fly.mono _ _ _ _ _ _ _ _ _ _ _ _
   | exact LeO.none _
   | refine LeO.ite ?_ ?_
   | refine LeO.bind ?_ (fun _ => ?_)
  ·intro y0
   unfold laws_FnFlown.j6
   repeat' first
   | (with_reducible exact s4 _ _ _ _ _ _ _ _ _ _ _)
   | (with_reducible exact s5 _ _ _ _ _ _ _ _ _ _ _)
   | (with_reducible exact s6 _)
   | (with_reducible exact s7 _)
   | (with_reducible exact s8 _ _ _ _ _)
   | (with_reducible exact s9 _ _ _ _ _)
   | (with_reducible exact t0 _ _ _ _ _ _)
   | (with_reducible exact impl_Fly.mono _ _ _ _ _ _ _ _ _ _ _ _)
   | (with_reducible exact impl_Load5.mono _ _ _ _ _ _ _ _ _ _)
   | (with_reducible exact impl_Near5.mono _ _ _ _ _ _ _ _ _ _)
   | (with_reducible exact spec_DrawFly.mono _ _)
   | (with_reducible exact spec_Fly.mono _ _ _ _ _ _ _ _ _ _ _ _)
   | (with_reducible exact LeO.refl _)
   | (with_reducible exact LeO.none _)
   | (with_reducible refine LeO.ite ?_ ?_)
   | (with_reducible refine LeO.bind ?_ (fun _ => ?_))
   | exact s4 _ _ _ _ _ _ _ _ _ _ _
   | exact s5 _ _ _ _ _ _ _ _ _ _ _
   | exact s6 _
   | exact s7 _
   | exact s8 _ _ _ _ _
   | exact s9 _ _ _ _ _
   | exact t0 _ _ _ _ _ _
   | exact impl_Fly.mono _ _ _ _ _ _ _ _ _ _ _ _
   | exact impl_Load5.mono _ _ _ _ _ _ _ _ _ _
   | exact impl_Near5.mono _ _ _ _ _ _ _ _ _ _
   | exact spec_DrawFly.mono _ _
   | exact spec_Fly.mono _ _ _ _ _ _ _ _ _ _ _ _
   | exact LeO.none _
   | refine LeO.ite ?_ ?_
   | refine LeO.bind ?_ (fun _ => ?_)
  ·intro y0 y1 y2 y3 y4
   unfold laws_FnFlown.j2
   repeat' first
   | (with_reducible exact s4 _ _ _ _ _ _ _ _ _ _ _)
   | (with_reducible exact s5 _ _ _ _ _ _ _ _ _ _ _)
   | (with_reducible exact s6 _)
   | (with_reducible exact s7 _)
   | (with_reducible exact s8 _ _ _ _ _)
   | (with_reducible exact s9 _ _ _ _ _)
   | (with_reducible exact t0 _ _ _ _ _ _)
   | (with_reducible exact impl_Fly.mono _ _ _ _ _ _ _ _ _ _ _ _)
   | (with_reducible exact impl_Load5.mono _ _ _ _ _ _ _ _ _ _)
   | (with_reducible exact impl_Near5.mono _ _ _ _ _ _ _ _ _ _)
   | (with_reducible exact spec_DrawFly.mono _ _)
   | (with_reducible exact spec_Fly.mono _ _ _ _ _ _ _ _ _ _ _ _)
   | (with_reducible exact LeO.refl _)
   | (with_reducible exact LeO.none _)
   | (with_reducible refine LeO.ite ?_ ?_)
   | (with_reducible refine LeO.bind ?_ (fun _ => ?_))
   | exact s4 _ _ _ _ _ _ _ _ _ _ _
   | exact s5 _ _ _ _ _ _ _ _ _ _ _
   | exact s6 _
   | exact s7 _
   | exact s8 _ _ _ _ _
   | exact s9 _ _ _ _ _
   | exact t0 _ _ _ _ _ _
   | exact impl_Fly.mono _ _ _ _ _ _ _ _ _ _ _ _
   | exact impl_Load5.mono _ _ _ _ _ _ _ _ _ _
   | exact impl_Near5.mono _ _ _ _ _ _ _ _ _ _
   | exact spec_DrawFly.mono _ _
   | exact spec_Fly.mono _ _ _ _ _ _ _ _ _ _ _ _
   | exact LeO.none _
   | refine LeO.ite ?_ ?_
   | refine LeO.bind ?_ (fun _ => ?_)
  ·intro y0 y1 y2 y3 y4
   unfold laws_FnFlown.l0
   repeat' first
   | (with_reducible exact s4 _ _ _ _ _ _ _ _ _ _ _)
   | (with_reducible exact s5 _ _ _ _ _ _ _ _ _ _ _)
   | (with_reducible exact s6 _)
   | (with_reducible exact s7 _)
   | (with_reducible exact s8 _ _ _ _ _)
   | (with_reducible exact s9 _ _ _ _ _)
   | (with_reducible exact t0 _ _ _ _ _ _)
   | (with_reducible exact impl_Fly.mono _ _ _ _ _ _ _ _ _ _ _ _)
   | (with_reducible exact impl_Load5.mono _ _ _ _ _ _ _ _ _ _)
   | (with_reducible exact impl_Near5.mono _ _ _ _ _ _ _ _ _ _)
   | (with_reducible exact spec_DrawFly.mono _ _)
   | (with_reducible exact spec_Fly.mono _ _ _ _ _ _ _ _ _ _ _ _)
   | (with_reducible exact LeO.refl _)
   | (with_reducible exact LeO.none _)
   | (with_reducible refine LeO.ite ?_ ?_)
   | (with_reducible refine LeO.bind ?_ (fun _ => ?_))
   | exact s4 _ _ _ _ _ _ _ _ _ _ _
   | exact s5 _ _ _ _ _ _ _ _ _ _ _
   | exact s6 _
   | exact s7 _
   | exact s8 _ _ _ _ _
   | exact s9 _ _ _ _ _
   | exact t0 _ _ _ _ _ _
   | exact impl_Fly.mono _ _ _ _ _ _ _ _ _ _ _ _
   | exact impl_Load5.mono _ _ _ _ _ _ _ _ _ _
   | exact impl_Near5.mono _ _ _ _ _ _ _ _ _ _
   | exact spec_DrawFly.mono _ _
   | exact spec_Fly.mono _ _ _ _ _ _ _ _ _ _ _ _
   | exact LeO.none _
   | refine LeO.ite ?_ ?_
   | refine LeO.bind ?_ (fun _ => ?_)
  ·intro y0 y1 y2 y3 y4 y5
   unfold laws_FnFlown.j4
   repeat' first
   | (with_reducible exact s4 _ _ _ _ _ _ _ _ _ _ _)
   | (with_reducible exact s5 _ _ _ _ _ _ _ _ _ _ _)
   | (with_reducible exact s6 _)
   | (with_reducible exact s7 _)
   | (with_reducible exact s8 _ _ _ _ _)
   | (with_reducible exact s9 _ _ _ _ _)
   | (with_reducible exact t0 _ _ _ _ _ _)
   | (with_reducible exact impl_Fly.mono _ _ _ _ _ _ _ _ _ _ _ _)
   | (with_reducible exact impl_Load5.mono _ _ _ _ _ _ _ _ _ _)
   | (with_reducible exact impl_Near5.mono _ _ _ _ _ _ _ _ _ _)
   | (with_reducible exact spec_DrawFly.mono _ _)
   | (with_reducible exact spec_Fly.mono _ _ _ _ _ _ _ _ _ _ _ _)
   | (with_reducible exact LeO.refl _)
   | (with_reducible exact LeO.none _)
   | (with_reducible refine LeO.ite ?_ ?_)
   | (with_reducible refine LeO.bind ?_ (fun _ => ?_))
   | exact s4 _ _ _ _ _ _ _ _ _ _ _
   | exact s5 _ _ _ _ _ _ _ _ _ _ _
   | exact s6 _
   | exact s7 _
   | exact s8 _ _ _ _ _
   | exact s9 _ _ _ _ _
   | exact t0 _ _ _ _ _ _
   | exact impl_Fly.mono _ _ _ _ _ _ _ _ _ _ _ _
   | exact impl_Load5.mono _ _ _ _ _ _ _ _ _ _
   | exact impl_Near5.mono _ _ _ _ _ _ _ _ _ _
   | exact spec_DrawFly.mono _ _
   | exact spec_Fly.mono _ _ _ _ _ _ _ _ _ _ _ _
   | exact LeO.none _
   | refine LeO.ite ?_ ?_
   | refine LeO.bind ?_ (fun _ => ?_)
theorem laws_FnFlown.mono : ∀ a0 k, LeO (laws_FnFlown.f k a0) (laws_FnFlown.f (k + 1) a0) := by
 intro a0 k
 obtain ⟨s4, s5, s6, s7, s8, s9, t0⟩ := laws_FnFlown.mono_l k
 unfold laws_FnFlown.f
 repeat' first
   | (with_reducible exact s4 _ _ _ _ _ _ _ _ _ _ _)
   | (with_reducible exact s5 _ _ _ _ _ _ _ _ _ _ _)
   | (with_reducible exact s6 _)
   | (with_reducible exact s7 _)
   | (with_reducible exact s8 _ _ _ _ _)
   | (with_reducible exact s9 _ _ _ _ _)
   | (with_reducible exact t0 _ _ _ _ _ _)
   | (with_reducible exact impl_Fly.mono _ _ _ _ _ _ _ _ _ _ _ _)
   | (with_reducible exact impl_Load5.mono _ _ _ _ _ _ _ _ _ _)
   | (with_reducible exact impl_Near5.mono _ _ _ _ _ _ _ _ _ _)
   | (with_reducible exact spec_DrawFly.mono _ _)
   | (with_reducible exact spec_Fly.mono _ _ _ _ _ _ _ _ _ _ _ _)
   | (with_reducible exact LeO.refl _)
   | (with_reducible exact LeO.none _)
   | (with_reducible refine LeO.ite ?_ ?_)
   | (with_reducible refine LeO.bind ?_ (fun _ => ?_))
   | exact s4 _ _ _ _ _ _ _ _ _ _ _
   | exact s5 _ _ _ _ _ _ _ _ _ _ _
   | exact s6 _
   | exact s7 _
   | exact s8 _ _ _ _ _
   | exact s9 _ _ _ _ _
   | exact t0 _ _ _ _ _ _
   | exact impl_Fly.mono _ _ _ _ _ _ _ _ _ _ _ _
   | exact impl_Load5.mono _ _ _ _ _ _ _ _ _ _
   | exact impl_Near5.mono _ _ _ _ _ _ _ _ _ _
   | exact spec_DrawFly.mono _ _
   | exact spec_Fly.mono _ _ _ _ _ _ _ _ _ _ _ _
   | exact LeO.none _
   | refine LeO.ite ?_ ?_
   | refine LeO.bind ?_ (fun _ => ?_)
def laws_FnFlown.T10 : Bool × List (List Nat × List Nat) := (true, [([], []), ([], []), ([1], [1]), ([0, 2], [0, 2]), ([3], [3]), ([], []), ([], []), ([], []), ([6, 7], [6, 7]), ([], []), ([4, 5, 8, 9], [4, 5, 8, 9]), ([10], [10]), ([11], [11]), ([11], [11]), ([12, 10, 0, 1, 2, 3, 4, 5, 6, 7, 8, 9, 10, 11, 12], [12]), ([13, 14, 0, 1, 2, 3, 4, 5, 6, 7, 8, 9, 10, 11, 12, 13, 14], [13])])
def laws_FnFlown.B10 : List Nat := [0, 0, 2, 7, 15, 0, 0, 0, 192, 0, 1023, 2047, 4095, 4095, 8191, 32767]
theorem laws_FnFlown.tab10 : rtab .any (opsOf Try.f10 10) = laws_FnFlown.T10 := by kernel_rfl
theorem laws_FnFlown.bits10 : waitsOk laws_FnFlown.T10.2 laws_FnFlown.B10 = true := by kernel_rfl
def laws_FnFlown.T16 : Bool × List (List Nat × List Nat) := (true, [([], []), ([], []), ([0, 1], [0, 1]), ([2], [2]), ([], []), ([], []), ([], []), ([5, 6], [5, 6]), ([4, 7], [4, 7]), ([8], [8]), ([], []), ([], []), ([10, 3, 0, 1, 2, 3, 10, 11], [3, 10]), ([11, 9, 12, 0, 1, 2, 3, 4, 5, 6, 7, 8, 9, 10, 11, 12], [9, 11])])
def laws_FnFlown.B16 : List Nat := [0, 0, 3, 7, 0, 0, 0, 96, 240, 496, 0, 0, 3087, 8191]
theorem laws_FnFlown.tab16 : rtab .any (opsOf Try.f10 16) = laws_FnFlown.T16 := by kernel_rfl
theorem laws_FnFlown.bits16 : waitsOk laws_FnFlown.T16.2 laws_FnFlown.B16 = true := by kernel_rfl
set_option maxHeartbeats 8000000 in
set_option maxRecDepth 100000 in
theorem laws_FnFlown.calls (k : Nat) (A0 : Option Addr) (c0 : Nat) (l0 : List Int) (r : Bool) (w : World) (hr0 : Kd.C (Kd.int .u8) w A0 l0.length l0) (hc0 : l0.length ≤ c0) (h : laws_FnFlown.f k l0 = some r) :
  Calls Try.prog 10 #[.slice A0 l0.length c0] w fun e w' => e = .returned (.bool r) ∧ Below w.heap.size w w' := by
 have ap7 := Try.underlying60
 have ap8 := Try.underlying88
 have I3 := mk_ hr0; have I4 := mk_ hc0; clear hr0 hc0; have HB := mk_ (Below.refl w.heap.size w)
 have H : ((laws_big.f l0).bind fun E0 => (if E0 = true then (some true) else ((spec_DrawFly.f k l0).bind fun a7 => ((impl_Fly.f k a7.1 a7.2.1 a7.2.2.1 a7.2.2.2.1 a7.2.2.2.2.1 a7.2.2.2.2.2.1 a7.2.2.2.2.2.2.1 a7.2.2.2.2.2.2.2.1 a7.2.2.2.2.2.2.2.2.1 a7.2.2.2.2.2.2.2.2.2.1 a7.2.2.2.2.2.2.2.2.2.2).bind fun g0 => ((spec_Fly.f k a7.1 a7.2.1 a7.2.2.1 a7.2.2.2.1 a7.2.2.2.2.1 a7.2.2.2.2.2.1 a7.2.2.2.2.2.2.1 a7.2.2.2.2.2.2.2.1 a7.2.2.2.2.2.2.2.2.1 a7.2.2.2.2.2.2.2.2.2.1 a7.2.2.2.2.2.2.2.2.2.2).bind fun E1 => (if (g0.2 != E1.2) = true then (laws_FnFlown.j0 k l0 a7.2.2.2.2.2.2.2.2.2.1 a7.2.2.2.2.2.2.2.2.2.2 g0.1 g0.2 true a7.2.2.2.2.1 a7.2.2.2.2.2.1 a7.2.2.2.2.2.2.1 a7.2.2.2.2.2.2.2.1 a7.2.2.2.2.2.2.2.2.1) else (if g0.2 = true then (laws_FnFlown.j0 k l0 a7.2.2.2.2.2.2.2.2.2.1 a7.2.2.2.2.2.2.2.2.2.2 g0.1 g0.2 ((g0.1.length : Int) != (a7.2.2.2.2.2.2.2.2.2.1.length : Int)) a7.2.2.2.2.1 a7.2.2.2.2.2.1 a7.2.2.2.2.2.2.1 a7.2.2.2.2.2.2.2.1 a7.2.2.2.2.2.2.2.2.1) else (laws_FnFlown.j0 k l0 a7.2.2.2.2.2.2.2.2.2.1 a7.2.2.2.2.2.2.2.2.2.2 g0.1 g0.2 false a7.2.2.2.2.1 a7.2.2.2.2.2.1 a7.2.2.2.2.2.2.1 a7.2.2.2.2.2.2.2.1 a7.2.2.2.2.2.2.2.2.1)))))))) = some r := h
 clear h; replace H := Option.bind_eq_some_iff.mp H; obtain ⟨E0, A20, H⟩ := H; (try dsimp only at H); have A2 := mk_ A20; clear A20; by_cases c3 : E0 = true
 ·subst c3; rw [if_pos rfl] at H
  obtain rfl := Option.some.inj H
  go_enter Try.func10, Try.ntmps10
  go_wp2_with (first | ((with_reducible refine gc_ 23 rfl ?_); refine gl_ (some 22) rfl Try.func23 #[.slice A0 l0.length c0] ?_; (with_reducible refine (laws_big.calls _ _ l0 true _ ?c2 ?c4 A2.out).mono ?_); (case c2 => exact cw_ I3.out); (case c4 => exact I4.out); rintro e w' ⟨rfl, ⟨nd, rfl⟩⟩; refine ⟨_, rfl, ?_⟩))
  go_ret
  exact ⟨re_, hw_ HB⟩
 ·replace c3 := Bool.eq_false_iff.mpr c3; subst c3; rw [if_neg (show ¬ (false = true) by decide)] at H; replace H := Option.bind_eq_some_iff.mp H; obtain ⟨⟨F8, F9, G0, G1, n0, n1, n2, n3, n4, d4, n5⟩, A40, H⟩ := H; (try dsimp only at H); have A4 := mk_ A40; clear A40; replace H := Option.bind_eq_some_iff.mp H; obtain ⟨⟨a2, o1⟩, A50, H⟩ := H; (try dsimp only at H); have A5 := mk_ A50; clear A50; replace H := Option.bind_eq_some_iff.mp H; obtain ⟨⟨al0, p7⟩, A60, H⟩ := H; (try dsimp only at H); have A6 := mk_ A60; clear A60; have HC7 := mk_ H; clear H
  go_enter Try.func10, Try.ntmps10
  go_upto_region 6 with (first | ((with_reducible refine gc_ 23 rfl ?_); refine gl_ (some 22) rfl Try.func23 #[.slice A0 l0.length c0] ?_; (with_reducible refine (laws_big.calls _ _ l0 false _ ?c2 ?c4 A2.out).mono ?_); (case c2 => exact cw_ I3.out); (case c4 => exact I4.out); rintro e w' ⟨rfl, ⟨nd, rfl⟩⟩; refine ⟨_, rfl, ?_⟩) | ((with_reducible refine gc_ 43 rfl ?_); refine gl_ (some 25) rfl Try.func43 #[.slice A0 l0.length c0] ?_; (with_reducible refine (spec_DrawFly.calls k _ _ l0 F8 F9 G0 G1 n0 n1 n2 n3 n4 d4 n5 _ ?c2 ?c4 A4.out).mono ?_); (case c2 => exact cw_ I3.out); (case c4 => exact I4.out); rintro e w8 ⟨v371, d7, g2, g6, j8, d5, d8, g1, g3, g4, n6, rfl, B6, B7, B8, B9, p8, p9, q0, q1, q2, q3, D7, hb⟩; refine ⟨_, rfl, ?_⟩; have g5 := mk_ (Kd.R_lower D7 (below_size (hw_ HB))); replace HB := hk_ HB hb; (try clear hb); (try clear E8); (try clear hk); (try clear hi); (try clear D7)) | ((with_reducible refine gd_ 3 rfl ?_); (try (refine gate_guard (by rfl) ?_; dsimp only)); refine box_event ?hg (N := 3) ?hd (cs := #[.float .f64 0, .float .f64 0, .float .f64 0, .float .f64 0]) (t := 60) ?hr ?_; (case hd => rfl); (case hg => rfl); (case hr => exact hr_); intro j9 hg w9 hbox hb; replace g5 := rb_ g5 hb; have d0 := mk_ (hbox); have I5 := gb_ hg HB; replace HB := bp_ HB hb; have E9 := I5; clear hb hbox hg) | ((with_reducible refine gd_ 4 rfl ?_); (try (refine gate_guard (by rfl) ?_; dsimp only)); refine box_event ?hg (N := 4) ?hd (cs := #[.float .f64 0, .float .f64 0, .float .f64 0, .float .f64 0, .float .f64 0]) (t := 88) ?hr ?_; (case hd => rfl); (case hg => rfl); (case hr => exact hr_); intro d9 hg w10 hbox hb; replace g5 := rb_ g5 hb; have b9 := mk_ (hbox); have I6 := gb_ hg HB; replace HB := bp_ HB hb; have F0 := I6; have c9 := nb_ hg d0; replace d0 := bl_ d0 hb; have j3 := ns_ c9; clear hb hbox hg; have an0 := c9.out; have an1 := j3.out; have W8 := bc0_ d0; have W9 := bc1_ d0; have X0 := bc2_ d0; have X1 := bc3_ d0; have X2 := bf_ d0 0; have X3 := bf_ d0 1; have X4 := bf_ d0 2; have X5 := bf_ d0 3; have X6 := bc0_ b9; have X7 := bc1_ b9; have X8 := bc2_ b9; have X9 := bc3_ b9; have Y0 : w10.cell? ⟨d9, 4, none⟩ = some (.float .f64 0) := bd_ b9 4; have Y1 := bf_ b9 0; have Y2 := bf_ b9 1; have Y3 := bf_ b9 2; have Y4 := bf_ b9 3; have Y5 := bf_ b9 4; obtain ⟨t1, p3, al1⟩ := Kd.R_slice g5.out; subst al1) | ((with_reducible refine gc_ 44 rfl ?_); refine gl_ (some 35) rfl Try.func44 #[.agg #[.float .f64 d7, .float .f64 g2, .float .f64 g6, .float .f64 j8], .agg #[.float .f64 d5, .float .f64 d8, .float .f64 g1, .float .f64 g3, .float .f64 g4], .slice t1 d4.length p3, .float .f64 n6] ?_; (with_reducible refine (impl_Fly.calls k d7 F8 g2 F9 g6 G0 j8 G1 d5 n0 d8 n1 g1 n2 g3 n3 g4 n4 _ _ d4 n6 n5 a2 o1 _ ?c2 ?c4 ?g7 ?g8 ?g9 ?h2 ?h3 ?h4 ?h5 ?m4 ?m5 ?o8 A5.out).mono ?_); (case c2 => exact B6); (case c4 => exact B7); (case g7 => exact B8); (case g8 => exact B9); (case g9 => exact p8); (case h2 => exact p9); (case h3 => exact q0); (case h4 => exact q1); (case h5 => exact q2); (case m4 => refine (Kd.R_reads' (e := 36) (base := w.heap.size) (ok := fun k_ => True) (n := d4.length) (c := p3) ?_).2.2; exact (by (with_reducible repeat (first | apply Kd.R_alloc | apply Kd.R_drewN | apply Kd.R_drew)); exact (Kd.R_mono (Kd.R_mono (Kd.R_far (p := ⟨d9, 4, none⟩) (Kd.R_far (p := ⟨d9, 3, none⟩) (Kd.R_far (p := ⟨d9, 2, none⟩) (Kd.R_far (p := ⟨d9, 1, none⟩) (Kd.R_far (p := ⟨d9, 0, none⟩) (Kd.R_far (p := ⟨j9, 3, none⟩) (Kd.R_far (p := ⟨j9, 2, none⟩) (Kd.R_far (p := ⟨j9, 1, none⟩) (Kd.R_far (p := ⟨j9, 0, none⟩) (Kd.R_types (Kd.R_types g5.out d0.out (by decide)) b9.out (by decide)) (fun _ hk => hk.1.2) (.float .f64 d7)) (fun _ hk => hk.1.2) (.float .f64 g2)) (fun _ hk => hk.1.2) (.float .f64 g6)) (fun _ hk => hk.1.2) (.float .f64 j8)) (fun _ hk => hk.2) (.float .f64 d5)) (fun _ hk => hk.2) (.float .f64 d8)) (fun _ hk => hk.2) (.float .f64 g1)) (fun _ hk => hk.2) (.float .f64 g3)) (fun _ hk => hk.2) (.float .f64 g4)) (fun _ h_ => h_.1)) (fun _ h_ => h_.1)))); (case m5 => exact (Kd.R_reads' g5.out).2.1); (case o8 => exact q3); rintro e w15 ⟨v377, rfl, D7, hb⟩; refine ⟨_, rfl, ?_⟩; replace g5 := mk_ (Kd.R_below (by (with_reducible repeat (first | apply Kd.R_alloc | apply Kd.R_drewN | apply Kd.R_drew)); exact (Kd.R_mono (Kd.R_mono (Kd.R_far (p := ⟨d9, 4, none⟩) (Kd.R_far (p := ⟨d9, 3, none⟩) (Kd.R_far (p := ⟨d9, 2, none⟩) (Kd.R_far (p := ⟨d9, 1, none⟩) (Kd.R_far (p := ⟨d9, 0, none⟩) (Kd.R_far (p := ⟨j9, 3, none⟩) (Kd.R_far (p := ⟨j9, 2, none⟩) (Kd.R_far (p := ⟨j9, 1, none⟩) (Kd.R_far (p := ⟨j9, 0, none⟩) (Kd.R_types (Kd.R_types g5.out d0.out (by decide)) b9.out (by decide)) (fun _ hk => hk.1.2) (.float .f64 d7)) (fun _ hk => hk.1.2) (.float .f64 g2)) (fun _ hk => hk.1.2) (.float .f64 g6)) (fun _ hk => hk.1.2) (.float .f64 j8)) (fun _ hk => hk.2) (.float .f64 d5)) (fun _ hk => hk.2) (.float .f64 d8)) (fun _ hk => hk.2) (.float .f64 g1)) (fun _ hk => hk.2) (.float .f64 g3)) (fun _ hk => hk.2) (.float .f64 g4)) (fun _ h_ => h_.1)) (fun _ h_ => h_.1))) hb); have o9 := mk_ (Kd.R_lower (Kd.R_newB D7 (g := j9) (o := .cells #[.float .f64 d7, .float .f64 g2, .float .f64 g6, .float .f64 j8] 60 (0, 0)) (by (with_reducible repeat (first | refine blk_drewN ?_ _ | refine blk_drew ?_ | refine blk_alloc ?_ _)); refine blk_far ?_ c9.out _; (with_reducible repeat (first | refine blk_drewN ?_ _ | refine blk_drew ?_ | refine blk_alloc ?_ _)); refine blk_far ?_ c9.out _; (with_reducible repeat (first | refine blk_drewN ?_ _ | refine blk_drew ?_ | refine blk_alloc ?_ _)); refine blk_far ?_ c9.out _; (with_reducible repeat (first | refine blk_drewN ?_ _ | refine blk_drew ?_ | refine blk_alloc ?_ _)); refine blk_far ?_ c9.out _; (with_reducible repeat (first | refine blk_drewN ?_ _ | refine blk_drew ?_ | refine blk_alloc ?_ _)); refine blk_far ?_ c9.out _; (with_reducible repeat (first | refine blk_drewN ?_ _ | refine blk_drew ?_ | refine blk_alloc ?_ _)); refine blk_put (cs := #[.float .f64 d7, .float .f64 g2, .float .f64 g6, .float .f64 0]) ?_ 3 _ rfl; (with_reducible repeat (first | refine blk_drewN ?_ _ | refine blk_drew ?_ | refine blk_alloc ?_ _)); refine blk_put (cs := #[.float .f64 d7, .float .f64 g2, .float .f64 0, .float .f64 0]) ?_ 2 _ rfl; (with_reducible repeat (first | refine blk_drewN ?_ _ | refine blk_drew ?_ | refine blk_alloc ?_ _)); refine blk_put (cs := #[.float .f64 d7, .float .f64 0, .float .f64 0, .float .f64 0]) ?_ 1 _ rfl; (with_reducible repeat (first | refine blk_drewN ?_ _ | refine blk_drew ?_ | refine blk_alloc ?_ _)); refine blk_put (cs := #[.float .f64 0, .float .f64 0, .float .f64 0, .float .f64 0]) ?_ 0 _ rfl; (with_reducible repeat (first | refine blk_drewN ?_ _ | refine blk_drew ?_ | refine blk_alloc ?_ _)); exact d0.out)) (below_size (by repeat (first | (with_reducible first | exact HB.out | apply below_alloc | apply pw_below_drewN | apply below_drew1 | refine below_set ?_ E9.out | refine below_set ?_ F0.out) | exact HB.out)))); replace d0 := mk_ (blk_below (g := j9) (o := .cells #[.float .f64 d7, .float .f64 g2, .float .f64 g6, .float .f64 j8] 60 (0, 0)) (by (with_reducible repeat (first | refine blk_drewN ?_ _ | refine blk_drew ?_ | refine blk_alloc ?_ _)); refine blk_far ?_ c9.out _; (with_reducible repeat (first | refine blk_drewN ?_ _ | refine blk_drew ?_ | refine blk_alloc ?_ _)); refine blk_far ?_ c9.out _; (with_reducible repeat (first | refine blk_drewN ?_ _ | refine blk_drew ?_ | refine blk_alloc ?_ _)); refine blk_far ?_ c9.out _; (with_reducible repeat (first | refine blk_drewN ?_ _ | refine blk_drew ?_ | refine blk_alloc ?_ _)); refine blk_far ?_ c9.out _; (with_reducible repeat (first | refine blk_drewN ?_ _ | refine blk_drew ?_ | refine blk_alloc ?_ _)); refine blk_far ?_ c9.out _; (with_reducible repeat (first | refine blk_drewN ?_ _ | refine blk_drew ?_ | refine blk_alloc ?_ _)); refine blk_put (cs := #[.float .f64 d7, .float .f64 g2, .float .f64 g6, .float .f64 0]) ?_ 3 _ rfl; (with_reducible repeat (first | refine blk_drewN ?_ _ | refine blk_drew ?_ | refine blk_alloc ?_ _)); refine blk_put (cs := #[.float .f64 d7, .float .f64 g2, .float .f64 0, .float .f64 0]) ?_ 2 _ rfl; (with_reducible repeat (first | refine blk_drewN ?_ _ | refine blk_drew ?_ | refine blk_alloc ?_ _)); refine blk_put (cs := #[.float .f64 d7, .float .f64 0, .float .f64 0, .float .f64 0]) ?_ 1 _ rfl; (with_reducible repeat (first | refine blk_drewN ?_ _ | refine blk_drew ?_ | refine blk_alloc ?_ _)); refine blk_put (cs := #[.float .f64 0, .float .f64 0, .float .f64 0, .float .f64 0]) ?_ 0 _ rfl; (with_reducible repeat (first | refine blk_drewN ?_ _ | refine blk_drew ?_ | refine blk_alloc ?_ _)); exact d0.out) hb); replace b9 := mk_ (blk_below (g := d9) (o := .cells #[.float .f64 d5, .float .f64 d8, .float .f64 g1, .float .f64 g3, .float .f64 g4] 88 (0, 0)) (by (with_reducible repeat (first | refine blk_drewN ?_ _ | refine blk_drew ?_ | refine blk_alloc ?_ _)); refine blk_put (cs := #[.float .f64 d5, .float .f64 d8, .float .f64 g1, .float .f64 g3, .float .f64 0]) ?_ 4 _ rfl; (with_reducible repeat (first | refine blk_drewN ?_ _ | refine blk_drew ?_ | refine blk_alloc ?_ _)); refine blk_put (cs := #[.float .f64 d5, .float .f64 d8, .float .f64 g1, .float .f64 0, .float .f64 0]) ?_ 3 _ rfl; (with_reducible repeat (first | refine blk_drewN ?_ _ | refine blk_drew ?_ | refine blk_alloc ?_ _)); refine blk_put (cs := #[.float .f64 d5, .float .f64 d8, .float .f64 0, .float .f64 0, .float .f64 0]) ?_ 2 _ rfl; (with_reducible repeat (first | refine blk_drewN ?_ _ | refine blk_drew ?_ | refine blk_alloc ?_ _)); refine blk_put (cs := #[.float .f64 d5, .float .f64 0, .float .f64 0, .float .f64 0, .float .f64 0]) ?_ 1 _ rfl; (with_reducible repeat (first | refine blk_drewN ?_ _ | refine blk_drew ?_ | refine blk_alloc ?_ _)); refine blk_put (cs := #[.float .f64 0, .float .f64 0, .float .f64 0, .float .f64 0, .float .f64 0]) ?_ 0 _ rfl; (with_reducible repeat (first | refine blk_drewN ?_ _ | refine blk_drew ?_ | refine blk_alloc ?_ _)); refine blk_far ?_ j3.out _; (with_reducible repeat (first | refine blk_drewN ?_ _ | refine blk_drew ?_ | refine blk_alloc ?_ _)); refine blk_far ?_ j3.out _; (with_reducible repeat (first | refine blk_drewN ?_ _ | refine blk_drew ?_ | refine blk_alloc ?_ _)); refine blk_far ?_ j3.out _; (with_reducible repeat (first | refine blk_drewN ?_ _ | refine blk_drew ?_ | refine blk_alloc ?_ _)); refine blk_far ?_ j3.out _; (with_reducible repeat (first | refine blk_drewN ?_ _ | refine blk_drew ?_ | refine blk_alloc ?_ _)); exact b9.out) hb); replace HB := mk_ (below_step (by repeat (first | (with_reducible first | exact HB.out | apply below_alloc | apply pw_below_drewN | apply below_drew1 | refine below_set ?_ E9.out | refine below_set ?_ F0.out) | exact HB.out)) hb); (try clear hb); (try clear E8); (try clear hk); (try clear hi); (try clear D7); have Y6 := bc0_ d0; have Y7 := bc1_ d0; have Y8 := bc2_ d0; have Y9 := bc3_ d0; have Z0 := bf_ d0 0; have Z1 := bf_ d0 1; have Z2 := bf_ d0 2; have Z3 := bf_ d0 3; have Z4 := bc0_ b9; have Z5 := bc1_ b9; have Z6 := bc2_ b9; have Z7 := bc3_ b9; have Z8 : w15.cell? ⟨d9, 4, none⟩ = some (.float .f64 g4) := bd_ b9 4; have Z9 := bf_ b9 0; have aa0 := bf_ b9 1; have aa1 := bf_ b9 2; have aa2 := bf_ b9 3; have aa3 := bf_ b9 4) | ((with_reducible refine gc_ 45 rfl ?_); refine gl_ (some 43) rfl Try.func45 #[.agg #[.float .f64 d7, .float .f64 g2, .float .f64 g6, .float .f64 j8], .agg #[.float .f64 d5, .float .f64 d8, .float .f64 g1, .float .f64 g3, .float .f64 g4], .slice t1 d4.length p3, .float .f64 n6] ?_; (with_reducible refine (spec_Fly.calls k d7 F8 g2 F9 g6 G0 j8 G1 d5 n0 d8 n1 g1 n2 g3 n3 g4 n4 _ _ d4 n6 n5 al0 p7 _ ?c2 ?c4 ?g7 ?g8 ?g9 ?h2 ?h3 ?h4 ?h5 ?m4 ?m5 ?o8 A6.out).mono ?_); (case c2 => exact B6); (case c4 => exact B7); (case g7 => exact B8); (case g8 => exact B9); (case g9 => exact p8); (case h2 => exact p9); (case h3 => exact q0); (case h4 => exact q1); (case h5 => exact q2); (case m4 => exact cw_ (rr_ g5)); (case m5 => exact (Kd.R_reads' g5.out).2.1); (case o8 => exact q3); rintro e w18 ⟨v381, rfl, D7, hb⟩; refine ⟨_, rfl, ?_⟩; replace g5 := rb_ g5 hb; have an2 := mk_ (Kd.R_lower (Kd.R_newB (Kd.R_new' D7 (Kd.R_lt (by exact o9.out))) (g := j9) (o := .cells #[.float .f64 d7, .float .f64 g2, .float .f64 g6, .float .f64 j8] 60 (0, 0)) (by exact d0.out)) (below_size (by exact HB.out))); replace o9 := mk_ (Kd.R_elder' (by exact o9.out) (Kd.R_base D7) hb); replace d0 := bl_ d0 hb; replace b9 := bl_ b9 hb; replace HB := bp_ HB hb; (try clear hb); (try clear E8); (try clear hk); (try clear hi); (try clear D7)))
  (try simp only [Act.put, List.setIfInBounds_toArray, List.set_cons_zero, List.set_cons_succ])
  go_cut [58] (fun v58 wc => ∃ (kq : Nat) (C0 : Bool), v58 = .bool C0 ∧ Aside0 (laws_FnFlown.j0 kq l0 d4 n5 a2 o1 C0 n0 n1 n2 n3 n4 = some r) ∧ Aside0 (kq ≤ k) ∧ Aside0 (Kd.R (Kd.fl .f64) 36 wc w.heap.size (fun _ => True) (.slice t1 d4.length p3) d4) ∧ Aside0 (Kd.R k60 60 wc w.heap.size (fun _ => True) v377 a2) ∧ Aside0 (wc.heap[d9]? = some (.cells #[.float .f64 d5, .float .f64 d8, .float .f64 g1, .float .f64 g3, .float .f64 g4] 88 (0, 0))) ∧ Aside0 (Below w.heap.size w wc))
  case first =>
   have H := HC7.out; clear HC7; by_cases E2 : (o1 != p7) = true
   ·rw [if_pos E2] at H
    have t2 : (o1 != p7) = true := E2
    (try (have I7 : decide (o1 = p7) = false := by simpa using E2))
    (try (have I8 : (o1 == p7) = false := by simpa using E2))
    (try (have an3 : ¬ (o1 = p7) := by simpa using E2))
    clear E2
    (first | rw [t2] | (simp only [i64_w, i32_w]; rw [t2]) | skip)
    have H' := mk_ H
    clear H; go_wp2; go_meet
    case rel => exact ⟨_, (true), rf_, H', ⟨by first | omega | exact Nat.le_refl _⟩, kw_ g5, km_ o9 (fun _ hk => trivial), bw_ b9, ⟨hw_ HB⟩⟩
   ·rw [if_neg E2] at H
    have t2 : (o1 != p7) = false := by simpa using E2
    (try (have I7 : decide (o1 = p7) = true := by simpa using E2))
    (try (have I8 : (o1 == p7) = true := by simpa using E2))
    clear E2
    (first | rw [t2] | (simp only [i64_w, i32_w]; rw [t2]) | skip)
    by_cases c20 : o1 = true
    ·subst c20; rw [if_pos rfl] at H
     have H' := mk_ H
     clear H; obtain ⟨ap9, aq0, al2⟩ := Kd.R_slice o9.out; subst al2; go_wp2; go_meet
     case rel => exact ⟨_, (((a2.length : Int) != (d4.length : Int))), rf_, H', ⟨by first | omega | exact Nat.le_refl _⟩, kw_ g5, km_ o9 (fun _ hk => trivial), bw_ b9, ⟨hw_ HB⟩⟩
    ·replace c20 := Bool.eq_false_iff.mpr c20; subst c20; rw [if_neg (show ¬ (false = true) by decide)] at H
     have H' := mk_ H
     clear H; go_wp2; go_meet
     case rel => exact ⟨_, (false), rf_, H', ⟨by first | omega | exact Nat.le_refl _⟩, kw_ g5, km_ o9 (fun _ hk => trivial), bw_ b9, ⟨hw_ HB⟩⟩
  case rest =>
   clear HC7; (try clear c3)
   obtain ⟨kq, C0, rfl, HA, t7, p4, a3, b9, HB⟩ := hcut
   cases kq with
   | zero => exact absurd HA.out (by simp [laws_FnFlown.j0])
   | succ kj6 =>
    have H := HA.out; clear HA
    simp only [laws_FnFlown.j0] at H
    by_cases G2 : C0 = true
    ·subst G2; rw [if_pos rfl] at H
     obtain rfl := Option.some.inj H; go_wp2
     go_ret
     exact ⟨re_, hw_ HB⟩
    ·replace G2 := Bool.eq_false_iff.mpr G2; subst G2; rw [if_neg (show ¬ (false = true) by decide)] at H; have G3 := mk_ H; clear H; obtain ⟨al3, p0, al4⟩ := Kd.R_slice a3.out; subst al4
     go_upto_region 9 with (fail)
     go_cut [66] (fun v66 wc => ∃ (kq : Nat) (q4 : Bool), v66 = .bool q4 ∧ Aside0 (laws_FnFlown.j1 kq l0 d4 n5 a2 (wrap64 ((a2.length : Int) / 2)) q4 n0 n1 n2 n3 n4 = some r) ∧ Aside0 (kq ≤ kj6) ∧ Aside0 (Kd.R (Kd.fl .f64) 36 wc w.heap.size (fun _ => True) (.slice t1 d4.length p3) d4) ∧ Aside0 (Kd.R k60 60 wc w.heap.size (fun _ => True) (.slice al3 a2.length p0) a2) ∧ Aside0 (wc.heap[d9]? = some (.cells #[.float .f64 d5, .float .f64 d8, .float .f64 g1, .float .f64 g3, .float .f64 g4] 88 (0, 0))) ∧ Aside0 (Below w.heap.size w wc))
     case first =>
      have H := G3.out; clear G3; by_cases c25 : o1 = true
      ·subst c25; rw [if_pos rfl] at H
       have H' := mk_ H
       clear H; go_wp2; go_meet
       case rel => exact ⟨_, (decide ((wrap64 ((a2.length : Int) / 2)) > 0)), rf_, H', ⟨by have := t7.out; first | omega | exact Nat.le_refl _⟩, kw_ p4, kw_ a3, bw_ b9, ⟨hw_ HB⟩⟩
      ·replace c25 := Bool.eq_false_iff.mpr c25; subst c25; rw [if_neg (show ¬ (false = true) by decide)] at H
       have H' := mk_ H
       clear H; go_wp2; go_meet
       case rel => exact ⟨_, (false), rf_, H', ⟨by have := t7.out; first | omega | exact Nat.le_refl _⟩, kw_ p4, kw_ a3, bw_ b9, ⟨hw_ HB⟩⟩
     case rest =>
      clear G3; (try clear c3); (try clear G2)
      obtain ⟨kq, q4, rfl, HA, m7, p4, a3, b9, HB⟩ := hcut
      cases kq with
      | zero => exact absurd HA.out (by simp [laws_FnFlown.j1])
      | succ kj22 =>
       have H := HA.out; clear HA
       simp only [laws_FnFlown.j1] at H
       have G4 := mk_ H; clear H
       go_upto_if 66 with (fail)
       go_cut [] (fun wc => ∃ (kq : Nat), Aside0 (laws_FnFlown.j5 kq l0 = some r) ∧ Aside0 (kq ≤ kj22) ∧ Aside0 (Below w.heap.size w wc))
       case first =>
        have H := G4.out; clear G4; by_cases H9 : q4 = true
        ·subst H9; rw [if_pos rfl] at H
         obtain ⟨d6, p1⟩ : ∃ j_ : Int, (wrap64 ((wrap64 ((a2.length : Int) / 2)) - 1)) = j_ := ⟨_, rfl⟩
         replace H : (if 0 ≤ (d6) then (if (d6) < (a2.length : Int) then (if 0 ≤ (wrap64 ((a2.length : Int) / 2)) then (if (wrap64 ((a2.length : Int) / 2)) ≤ (d4.length : Int) then ((impl_Fly.f kj22 ((rd_T60 a2 (d6)).f0) ((rd_T60 a2 (d6)).f1) ((rd_T60 a2 (d6)).f2) ((rd_T60 a2 (d6)).f3) n0 n1 n2 n3 n4 (d4.drop ((wrap64 ((a2.length : Int) / 2)) : Int).toNat) n5).bind fun c6 => (if c6.2 = true then (laws_FnFlown.j2 kj22 l0 a2 (wrap64 ((a2.length : Int) / 2)) c6.1 ((c6.1.length : Int) != (wrap64 ((a2.length : Int) - (wrap64 ((a2.length : Int) / 2)))))) else (laws_FnFlown.j2 kj22 l0 a2 (wrap64 ((a2.length : Int) / 2)) c6.1 true))) else (none)) else (none)) else (none)) else (none)) = some r := by first | (rw [p1] at H; exact H) | (simp only [p1] at H ⊢; exact H)
         have hji28w : (IntKind.i64.wrap ((wrap64 ((a2.length : Int) / 2)) - 1)) = d6 := (i64_w _).trans p1
         (try simp only [p1])
         by_cases I0 : 0 ≤ (d6)
         ·rw [if_pos I0] at H; have C1 : decide (0 ≤ (d6)) = true := decide_eq_true I0; clear I0
          (first | rw [C1] | (simp only [i64_w, i32_w]; rw [C1]) | skip)
          by_cases I1 : (d6) < (a2.length : Int)
          ·rw [if_pos I1] at H; have F1 : decide ((d6) < (a2.length : Int)) = true := decide_eq_true I1; clear I1
           obtain ⟨fr384_0, l1⟩ : ∃ y_ : Fl, y_ = ((rd_T60 a2 (d6)).f0) := ⟨_, rfl⟩
           replace H : (if 0 ≤ (wrap64 ((a2.length : Int) / 2)) then (if (wrap64 ((a2.length : Int) / 2)) ≤ (d4.length : Int) then ((impl_Fly.f kj22 fr384_0 ((rd_T60 a2 (d6)).f1) ((rd_T60 a2 (d6)).f2) ((rd_T60 a2 (d6)).f3) n0 n1 n2 n3 n4 (d4.drop ((wrap64 ((a2.length : Int) / 2)) : Int).toNat) n5).bind fun c6 => (if c6.2 = true then (laws_FnFlown.j2 kj22 l0 a2 (wrap64 ((a2.length : Int) / 2)) c6.1 ((c6.1.length : Int) != (wrap64 ((a2.length : Int) - (wrap64 ((a2.length : Int) / 2)))))) else (laws_FnFlown.j2 kj22 l0 a2 (wrap64 ((a2.length : Int) / 2)) c6.1 true))) else (none)) else (none)) = some r := by first | (rw [l1]; with_reducible exact H) | (have H2_ := (Option.bind_some _ _).symm.trans H; rw [l1]; with_reducible exact H2_) | (have H2_ := (Option.bind_some _ _).symm.trans H; with_reducible exact H2_) | with_reducible exact H | (rw [l1]; exact H) | exact H
           have Nfr384_0 := mk_ l1; clear l1
           obtain ⟨fr384_1, l2⟩ : ∃ y_ : Fl, y_ = ((rd_T60 a2 (d6)).f1) := ⟨_, rfl⟩
           replace H : (if 0 ≤ (wrap64 ((a2.length : Int) / 2)) then (if (wrap64 ((a2.length : Int) / 2)) ≤ (d4.length : Int) then ((impl_Fly.f kj22 fr384_0 fr384_1 ((rd_T60 a2 (d6)).f2) ((rd_T60 a2 (d6)).f3) n0 n1 n2 n3 n4 (d4.drop ((wrap64 ((a2.length : Int) / 2)) : Int).toNat) n5).bind fun c6 => (if c6.2 = true then (laws_FnFlown.j2 kj22 l0 a2 (wrap64 ((a2.length : Int) / 2)) c6.1 ((c6.1.length : Int) != (wrap64 ((a2.length : Int) - (wrap64 ((a2.length : Int) / 2)))))) else (laws_FnFlown.j2 kj22 l0 a2 (wrap64 ((a2.length : Int) / 2)) c6.1 true))) else (none)) else (none)) = some r := by first | (rw [l2]; with_reducible exact H) | (have H2_ := (Option.bind_some _ _).symm.trans H; rw [l2]; with_reducible exact H2_) | (have H2_ := (Option.bind_some _ _).symm.trans H; with_reducible exact H2_) | with_reducible exact H | (rw [l2]; exact H) | exact H
           have Nfr384_1 := mk_ l2; clear l2
           obtain ⟨fr384_2, l3⟩ : ∃ y_ : Fl, y_ = ((rd_T60 a2 (d6)).f2) := ⟨_, rfl⟩
           replace H : (if 0 ≤ (wrap64 ((a2.length : Int) / 2)) then (if (wrap64 ((a2.length : Int) / 2)) ≤ (d4.length : Int) then ((impl_Fly.f kj22 fr384_0 fr384_1 fr384_2 ((rd_T60 a2 (d6)).f3) n0 n1 n2 n3 n4 (d4.drop ((wrap64 ((a2.length : Int) / 2)) : Int).toNat) n5).bind fun c6 => (if c6.2 = true then (laws_FnFlown.j2 kj22 l0 a2 (wrap64 ((a2.length : Int) / 2)) c6.1 ((c6.1.length : Int) != (wrap64 ((a2.length : Int) - (wrap64 ((a2.length : Int) / 2)))))) else (laws_FnFlown.j2 kj22 l0 a2 (wrap64 ((a2.length : Int) / 2)) c6.1 true))) else (none)) else (none)) = some r := by first | (rw [l3]; with_reducible exact H) | (have H2_ := (Option.bind_some _ _).symm.trans H; rw [l3]; with_reducible exact H2_) | (have H2_ := (Option.bind_some _ _).symm.trans H; with_reducible exact H2_) | with_reducible exact H | (rw [l3]; exact H) | exact H
           have Nfr384_2 := mk_ l3; clear l3
           obtain ⟨fr384_3, l4⟩ : ∃ y_ : Fl, y_ = ((rd_T60 a2 (d6)).f3) := ⟨_, rfl⟩
           replace H : (if 0 ≤ (wrap64 ((a2.length : Int) / 2)) then (if (wrap64 ((a2.length : Int) / 2)) ≤ (d4.length : Int) then ((impl_Fly.f kj22 fr384_0 fr384_1 fr384_2 fr384_3 n0 n1 n2 n3 n4 (d4.drop ((wrap64 ((a2.length : Int) / 2)) : Int).toNat) n5).bind fun c6 => (if c6.2 = true then (laws_FnFlown.j2 kj22 l0 a2 (wrap64 ((a2.length : Int) / 2)) c6.1 ((c6.1.length : Int) != (wrap64 ((a2.length : Int) - (wrap64 ((a2.length : Int) / 2)))))) else (laws_FnFlown.j2 kj22 l0 a2 (wrap64 ((a2.length : Int) / 2)) c6.1 true))) else (none)) else (none)) = some r := by first | (rw [l4]; with_reducible exact H) | (have H2_ := (Option.bind_some _ _).symm.trans H; rw [l4]; with_reducible exact H2_) | (have H2_ := (Option.bind_some _ _).symm.trans H; with_reducible exact H2_) | with_reducible exact H | (rw [l4]; exact H) | exact H
           have Nfr384_3 := mk_ l4; clear l4
           obtain ⟨b5, m8⟩ : ∃ j_ : Int, (wrap64 ((a2.length : Int) / 2)) = j_ := ⟨_, rfl⟩
           replace H : (if 0 ≤ (b5) then (if (b5) ≤ (d4.length : Int) then ((impl_Fly.f kj22 fr384_0 fr384_1 fr384_2 fr384_3 n0 n1 n2 n3 n4 (d4.drop ((b5) : Int).toNat) n5).bind fun c6 => (if c6.2 = true then (laws_FnFlown.j2 kj22 l0 a2 (b5) c6.1 ((c6.1.length : Int) != (wrap64 ((a2.length : Int) - (b5))))) else (laws_FnFlown.j2 kj22 l0 a2 (b5) c6.1 true))) else (none)) else (none)) = some r := by first | (rw [m8] at H; exact H) | (simp only [m8] at H ⊢; exact H)
           have hji31w : (IntKind.i64.wrap ((a2.length : Int) / 2)) = b5 := (i64_w _).trans m8
           have hji28n31 : (wrap64 (b5 - 1)) = d6 := by rw [← m8]; exact p1
           have hji28m31 : (IntKind.i64.wrap (b5 - 1)) = d6 := (i64_w _).trans hji28n31
           (try simp only [m8])
           by_cases G5 : 0 ≤ (b5)
           ·rw [if_pos G5] at H
            have F2 := eq_true G5
            have F3 : decide (0 ≤ (b5)) = true := decide_eq_true G5; clear G5; by_cases G6 : (b5) ≤ (d4.length : Int)
            ·rw [if_pos G6] at H
             have an4 := eq_true G6
             have an5 : decide ((b5) ≤ (d4.length : Int)) = true := decide_eq_true G6; clear G6
             obtain ⟨t3, t4⟩ : ∃ y_ : List (Fl), y_ = (d4.drop ((b5) : Int).toNat) := ⟨_, rfl⟩
             replace H : ((impl_Fly.f kj22 fr384_0 fr384_1 fr384_2 fr384_3 n0 n1 n2 n3 n4 t3 n5).bind fun c6 => (if c6.2 = true then (laws_FnFlown.j2 kj22 l0 a2 (b5) c6.1 ((c6.1.length : Int) != (wrap64 ((a2.length : Int) - (b5))))) else (laws_FnFlown.j2 kj22 l0 a2 (b5) c6.1 true))) = some r := by first | (rw [t4]; with_reducible exact H) | (have H2_ := (Option.bind_some _ _).symm.trans H; rw [t4]; with_reducible exact H2_) | (have H2_ := (Option.bind_some _ _).symm.trans H; with_reducible exact H2_) | with_reducible exact H | (rw [t4]; exact H) | exact H
             have F4 := mk_ t4; clear t4; replace H := Option.bind_eq_some_iff.mp H; obtain ⟨⟨c5, I9⟩, J0, H⟩ := H; (try dsimp only at H); have A34 := mk_ J0; clear J0; have G7 := mk_ H; clear H
             try go_wp2
             replace p4 := dR_ p4; replace a3 := dR_ a3; replace b9 := dB_ b9; replace HB := dH_ HB
             have G8 : 0 ≤ ((d6) : Int) := od_
             have G9 : (d6) < (a2.length : Int) := od_
             obtain ⟨c7, b_fr384_0, b_fr384_1, b_fr384_2, b_fr384_3, al5, C2, C3, C4, C5, hF384_0, hF384_1, hF384_2, hF384_3⟩ := at_T60 (rr_ a3) (d6) G8 G9
             have hF_fr384_0 := hF384_0.trans Nfr384_0.out.symm
             clear hF384_0
             have hF_fr384_1 := hF384_1.trans Nfr384_1.out.symm
             clear hF384_1
             have hF_fr384_2 := hF384_2.trans Nfr384_2.out.symm
             clear hF384_2
             have hF_fr384_3 := hF384_3.trans Nfr384_3.out.symm
             clear hF384_3; cases al5; replace G8 := eq_true G8; replace G9 := eq_true G9
             have q37 : ((b5) : Int) ≤ ((d4.length : Int) : Int) := od_
             obtain ⟨i037, F5, _, hsz37, _⟩ := info_parts info36
             have hroom37 : d4.length ≤ p3 := (Kd.R_reads' p4.out).2.1
             have hC37 : Kd.C (Kd.fl .f64) _ t1 d4.length d4 := (rr_ p4)
             have al6 : (0 : Int) ≤ ((b5) : Int) := od_
             have hcut37 := cut_from (P := Try.prog) 53 36 .i64 Try.underlying53 F5 1 hsz37 t1 d4.length p3 (b5) al6 q37
             have hr37 := Kd.C_drop (m := ((b5) : Int).toNat) (c := p3) hC37 (by omega) hroom37
             obtain ⟨A37, hA37⟩ : ∃ A1, A1 = (if p3 = ((b5) : Int).toNat then t1 else (t1 : Option Addr).map (·.add (((b5) : Int).toNat * 1))) := ⟨_, rfl⟩
             obtain ⟨c37, hc37⟩ : ∃ c1, c1 = p3 - ((b5) : Int).toNat := ⟨_, rfl⟩
             have E6 : t3.length = d4.length - ((b5) : Int).toNat := (by rw [F4.out, List.length_drop] <;> omega)
             rw [show (d4).drop ((b5) : Int).toNat = t3 from F4.out.symm] at hr37
             replace hr37 : Kd.C (Kd.fl .f64) _ A37 t3.length t3 := (by rw [hA37]; exact hr37)
             rw [← E6, ← hA37, ← hc37] at hcut37
             have p6 := mk_ hr37; have J1 := mk_ (show t3.length ≤ c37 from by rw [E6, hc37]; exact Nat.sub_le_sub_right hroom37 _); clear hr37 hC37 hroom37 F5 hsz37 hc37; have KY37 := mk_ E6; have KA37 := mk_ hA37; clear E6 hA37; have KL37 := mk_ (show ((b5) : Int).toNat ≤ d4.length from by omega); replace q37 := eq_true q37
             refine start_ (n := 16) (S := fun w' => w'.cell? ⟨d9, 0, none⟩ = some (.float .f64 d5) ∧ w'.cell? ⟨d9, 1, none⟩ = some (.float .f64 d8) ∧ w'.cell? ⟨d9, 2, none⟩ = some (.float .f64 g1) ∧ w'.cell? ⟨d9, 3, none⟩ = some (.float .f64 g3) ∧ w'.cell? ⟨d9, 4, none⟩ = some (.float .f64 g4) ∧ w'.cell? (c7.add (((d6)).toNat * 4)) = some (.float .f64 b_fr384_0) ∧ w'.cell? ⟨(c7.add (((d6)).toNat * 4)).block, (c7.add (((d6)).toNat * 4)).off + 1, none⟩ = some (.float .f64 b_fr384_1) ∧ w'.cell? ⟨(c7.add (((d6)).toNat * 4)).block, (c7.add (((d6)).toNat * 4)).off + 2, none⟩ = some (.float .f64 b_fr384_2) ∧ w'.cell? ⟨(c7.add (((d6)).toNat * 4)).block, (c7.add (((d6)).toNat * 4)).off + 3, none⟩ = some (.float .f64 b_fr384_3)) (ds := []) (bs_ 16 0) (by kernel_rfl) rfl (by kernel_rfl) ⟨bc0_ b9, bc1_ b9, bc2_ b9, bc3_ b9, bd_ b9 4, C2, C3, C4, C5⟩ (fun hHeld => ?_); refine with_tabW laws_FnFlown.tab10 laws_FnFlown.bits10 (fun HT_ HW_ => ?_)
             generalize wc.drew = w36 at p4 a3 b9 HB p6 C2 C3 C4 C5 hHeld ⊢
             refine pu_ HT_ 0 68 (bs_ 16 1) ?_; refine pu_ HT_ 1 69 (bs_ 16 3) ?_; refine pu_ HT_ 2 70 (bs_ 16 7) ?_; refine pu_ HT_ 3 71 (bs_ 16 15) ?_; refine pu_ HT_ 6 74 (bs_ 16 79) ?_; refine pu_ HT_ 7 75 (bs_ 16 207) ?_; refine pu_ HT_ 8 76 (bs_ 16 463) ?_; refine pu_ HT_ 9 77 (bs_ 16 975) ?_; refine tk_ HT_ HW_ 4 72 (bs_ 16 991) hHeld ?_; refine tk_ HT_ HW_ 5 73 (bs_ 16 1023) hHeld ?_
             refine one_ (i := 10) (N := some 78) (bs_ 16 2047) rfl rfl (one_of HT_.out (by kernel_rfl)) (by decide) (fun K hK => ?_)
             refine gs_ Try.func44 #[.agg #[.float .f64 b_fr384_0, .float .f64 b_fr384_1, .float .f64 b_fr384_2, .float .f64 b_fr384_3], .agg #[.float .f64 d5, .float .f64 d8, .float .f64 g1, .float .f64 g3, .float .f64 g4], .slice A37 t3.length c37, .float .f64 n6] ?_
             with_reducible refine (impl_Fly.calls kj22 b_fr384_0 fr384_0 b_fr384_1 fr384_1 b_fr384_2 fr384_2 b_fr384_3 fr384_3 d5 n0 d8 n1 g1 n2 g3 n3 g4 n4 _ _ t3 n6 n5 c5 I9 _ ?c2 ?c4 ?g7 ?g8 ?g9 ?h2 ?h3 ?h4 ?h5 ?m4 ?m5 ?o8 A34.out).mono ?_
             (case c2 => exact hF_fr384_0)
             (case c4 => exact hF_fr384_1)
             (case g7 => exact hF_fr384_2)
             (case g8 => exact hF_fr384_3)
             (case g9 => exact p8)
             (case h2 => exact p9)
             (case h3 => exact q0)
             (case h4 => exact q1)
             (case h5 => exact q2)
             (case m4 => repeat (first | exact (by repeat (first | (with_reducible exact p6.out) | (with_reducible refine Kd.C_alloc ?_ _) | (with_reducible refine Kd.C_drewN ?_ _) | (with_reducible refine Kd.C_drew ?_) | exact p6.out)) | (with_reducible refine Kd.C_alloc ?_ _) | (with_reducible refine Kd.C_drewN ?_ _) | (with_reducible refine Kd.C_drew ?_)))
             (case m5 => exact J1.out)
             (case o8 => exact q3)
             rintro e w38 ⟨v390, rfl, D7, hb⟩
             have q5 := (hb.cell (World.block_lt_of_cell? _ _ (hHeld.2.2.2.2.2.1))).trans (hHeld.2.2.2.2.2.1)
             have q6 := (hb.cell (World.block_lt_of_cell? _ _ (hHeld.2.2.2.2.2.2.1))).trans (hHeld.2.2.2.2.2.2.1)
             have q7 := (hb.cell (World.block_lt_of_cell? _ _ (hHeld.2.2.2.2.2.2.2.1))).trans (hHeld.2.2.2.2.2.2.2.1)
             have al7 := (hb.cell (World.block_lt_of_cell? _ _ (hHeld.2.2.2.2.2.2.2.2))).trans (hHeld.2.2.2.2.2.2.2.2)
             refine ⟨_, rfl, ?_⟩
             replace p4 := rk_ p4 hb; have E3 := mk_ (Kd.R_lower (Kd.R_new' D7 (Kd.R_lt (kx_ a3))) (below_size (hw_ HB))); replace a3 := mk_ (Kd.R_elder' (kx_ a3) (Kd.R_base D7) hb); replace b9 := bk_ b9 hb; replace p6 := mk_ (Kd.C_below (by repeat (first | (with_reducible exact p6.out) | (with_reducible refine Kd.C_alloc ?_ _) | (with_reducible refine Kd.C_drewN ?_ _) | (with_reducible refine Kd.C_drew ?_) | exact p6.out)) hb); replace HB := hk_ HB hb
             (try clear hb); (try clear E8); (try clear hk); (try clear hi); (try clear D7)
             refine hK.out _ _ ⟨bc0_ b9, bc1_ b9, bc2_ b9, bc3_ b9, bd_ b9 4, q5, q6, q7, al7⟩ (fun hHeld => ?_)
             clear hK K; refine nm_ 78 ?_; refine pu_ HT_ 11 67 (bs_ 16 4095) ?_; refine pu_ HT_ 12 79 (bs_ 16 8191) ?_; refine pu_ HT_ 13 80 (bs_ 16 16383) ?_; refine pu_ HT_ 14 12 (bs_ 16 32767) ?_; refine pu_ HT_ 15 13 (bs_ 16 65535) ?_
             refine done_ (done_of HT_.out (by kernel_rfl)) ?_
             go_upto_region 11 with (fail)
             go_cut [91] (fun v91 wc => ∃ (kq : Nat) (q8 : Bool), v91 = .bool q8 ∧ Aside0 (laws_FnFlown.j2 kq l0 a2 (b5) c5 q8 = some r) ∧ Aside0 (kq ≤ kj22) ∧ Aside0 (Kd.R k60 60 wc w.heap.size (fun k_ => some k_ ≠ (v390 : Value).ownBlock) (.slice (some c7) a2.length p0) a2) ∧ Aside0 (Kd.R k60 60 wc w.heap.size (fun k_ => some k_ ≠ ((.slice (some c7) a2.length p0) : Value).ownBlock) v390 c5) ∧ Aside0 (Below w.heap.size w wc))
             case first =>
              have H := G7.out; clear G7; by_cases c39 : I9 = true
              ·subst c39; rw [if_pos rfl] at H
               have H' := mk_ H
               clear H; obtain ⟨aq1, aq2, al8⟩ := Kd.R_slice E3.out; subst al8; go_wp2; go_meet
               case rel => exact ⟨_, (((c5.length : Int) != (wrap64 ((a2.length : Int) - (b5))))), (by first | rfl | (simp; done) | (simp only [← m8] <;> (first | rfl | simp)) | (simp [*]; done)), H', ⟨by have := t7.out; have := m7.out; first | omega | exact Nat.le_refl _⟩, km_ a3 (fun _ hk => hk.2), km_ E3 (fun _ hk => hk.2), ⟨hw_ HB⟩⟩
              ·replace c39 := Bool.eq_false_iff.mpr c39; subst c39; rw [if_neg (show ¬ (false = true) by decide)] at H
               have H' := mk_ H
               clear H; go_wp2; go_meet
               case rel => exact ⟨_, (true), rf_, H', ⟨by have := t7.out; have := m7.out; first | omega | exact Nat.le_refl _⟩, km_ a3 (fun _ hk => hk.2), km_ E3 (fun _ hk => hk.2), ⟨hw_ HB⟩⟩
             case rest =>
              clear G7; (try clear c3); (try clear G2); (try clear H9); (try clear I0); (try clear C1); (try clear I1); (try clear F1); (try clear G5); (try clear F2); (try clear F3); (try clear G6)
              obtain ⟨kq, q8, rfl, HA, A3, a3, a1, HB⟩ := hcut
              cases kq with
              | zero => exact absurd HA.out (by simp [laws_FnFlown.j2])
              | succ kj34 =>
               have H := HA.out; clear HA
               simp only [laws_FnFlown.j2] at H
               by_cases J2 : q8 = true
               ·subst J2; rw [if_pos rfl] at H
                obtain rfl := Option.some.inj H; go_wp2
                go_ret
                exact ⟨by first | rfl | (simp [errW_none, errW_some] <;> rfl) | (simp only [← p1, ← m8]; first | rfl | (simp [errW_none, errW_some] <;> rfl)) | (simp [*, errW_none, errW_some] <;> rfl), hw_ HB⟩
               ·replace J2 := Bool.eq_false_iff.mpr J2; subst J2; rw [if_neg (show ¬ (false = true) by decide)] at H
                have H' := mk_ H
                clear H; go_wp2
                go_loopg [14] kj34 (fun kq v14 w' => ∃ (a4 : Int), v14 = .int .i64 a4 ∧ Aside0 (laws_FnFlown.l0 kq l0 a2 (b5) c5 a4 = some r) ∧ Aside0 (kq ≤ kj34) ∧ Aside0 (Kd.R k60 60 w' w.heap.size (fun k_ => some k_ ≠ (v390 : Value).ownBlock) (.slice (some c7) a2.length p0) a2) ∧ Aside0 (Kd.R k60 60 w' w.heap.size (fun k_ => some k_ ≠ ((.slice (some c7) a2.length p0) : Value).ownBlock) v390 c5) ∧ Aside0 (Below w.heap.size w w'))
                case atStart => exact ⟨(0), rf_, H', ⟨Nat.le_refl _⟩, kw_ a3, kw_ a1, ⟨hw_ HB⟩⟩
                case round =>
                 clear H'; (try clear c3); (try clear G2); (try clear H9); (try clear I0); (try clear C1); (try clear I1); (try clear F1); (try clear G5); (try clear F2); (try clear F3); (try clear G6); (try clear J2)
                 obtain ⟨a4, rfl, HA, H0, a3, a1, HB⟩ := hrel
                 cases gk with
                 | zero => exact absurd HA.out (by simp [laws_FnFlown.l0])
                 | succ k4 =>
                  have H := HA.out; clear HA
                  simp only [laws_FnFlown.l0] at H
                  by_cases H1 : a4 < (c5.length : Int)
                  ·rw [if_pos H1] at H; have F6 : decide (a4 < (c5.length : Int)) = true := decide_eq_true H1; clear H1; by_cases J3 : 0 ≤ a4
                   ·rw [if_pos J3] at H; have J4 : decide (0 ≤ a4) = true := decide_eq_true J3; clear J3
                    obtain ⟨fr393_0, l5⟩ : ∃ y_ : Fl, y_ = ((rd_T60 c5 a4).f0) := ⟨_, rfl⟩
                    replace H : (if 0 ≤ (wrap64 ((b5) + a4)) then (if (wrap64 ((b5) + a4)) < (a2.length : Int) then ((laws_sameBits.f fr393_0 ((rd_T60 a2 (wrap64 ((b5) + a4))).f0)).bind fun h7 => (if h7 = true then ((laws_sameBits.f ((rd_T60 c5 a4).f1) ((rd_T60 a2 (wrap64 ((b5) + a4))).f1)).bind fun h8 => (if h8 = true then ((laws_sameBits.f ((rd_T60 c5 a4).f2) ((rd_T60 a2 (wrap64 ((b5) + a4))).f2)).bind fun h9 => (if h9 = true then ((laws_sameBits.f ((rd_T60 c5 a4).f3) ((rd_T60 a2 (wrap64 ((b5) + a4))).f3)).bind fun h6 => (laws_FnFlown.j4 k4 l0 a2 (b5) c5 a4 (!h6))) else (laws_FnFlown.j4 k4 l0 a2 (b5) c5 a4 true))) else (laws_FnFlown.j4 k4 l0 a2 (b5) c5 a4 true))) else (laws_FnFlown.j4 k4 l0 a2 (b5) c5 a4 true))) else (none)) else (none)) = some r := by first | (rw [l5]; with_reducible exact H) | (have H2_ := (Option.bind_some _ _).symm.trans H; rw [l5]; with_reducible exact H2_) | (have H2_ := (Option.bind_some _ _).symm.trans H; with_reducible exact H2_) | with_reducible exact H | (rw [l5]; exact H) | exact H
                    have Nfr393_0 := mk_ l5; clear l5
                    obtain ⟨fr393_1, l6⟩ : ∃ y_ : Fl, y_ = ((rd_T60 c5 a4).f1) := ⟨_, rfl⟩
                    replace H : (if 0 ≤ (wrap64 ((b5) + a4)) then (if (wrap64 ((b5) + a4)) < (a2.length : Int) then ((laws_sameBits.f fr393_0 ((rd_T60 a2 (wrap64 ((b5) + a4))).f0)).bind fun h7 => (if h7 = true then ((laws_sameBits.f fr393_1 ((rd_T60 a2 (wrap64 ((b5) + a4))).f1)).bind fun h8 => (if h8 = true then ((laws_sameBits.f ((rd_T60 c5 a4).f2) ((rd_T60 a2 (wrap64 ((b5) + a4))).f2)).bind fun h9 => (if h9 = true then ((laws_sameBits.f ((rd_T60 c5 a4).f3) ((rd_T60 a2 (wrap64 ((b5) + a4))).f3)).bind fun h6 => (laws_FnFlown.j4 k4 l0 a2 (b5) c5 a4 (!h6))) else (laws_FnFlown.j4 k4 l0 a2 (b5) c5 a4 true))) else (laws_FnFlown.j4 k4 l0 a2 (b5) c5 a4 true))) else (laws_FnFlown.j4 k4 l0 a2 (b5) c5 a4 true))) else (none)) else (none)) = some r := by first | (rw [l6]; with_reducible exact H) | (have H2_ := (Option.bind_some _ _).symm.trans H; rw [l6]; with_reducible exact H2_) | (have H2_ := (Option.bind_some _ _).symm.trans H; with_reducible exact H2_) | with_reducible exact H | (rw [l6]; exact H) | exact H
                    have Nfr393_1 := mk_ l6; clear l6
                    obtain ⟨fr393_2, l7⟩ : ∃ y_ : Fl, y_ = ((rd_T60 c5 a4).f2) := ⟨_, rfl⟩
                    replace H : (if 0 ≤ (wrap64 ((b5) + a4)) then (if (wrap64 ((b5) + a4)) < (a2.length : Int) then ((laws_sameBits.f fr393_0 ((rd_T60 a2 (wrap64 ((b5) + a4))).f0)).bind fun h7 => (if h7 = true then ((laws_sameBits.f fr393_1 ((rd_T60 a2 (wrap64 ((b5) + a4))).f1)).bind fun h8 => (if h8 = true then ((laws_sameBits.f fr393_2 ((rd_T60 a2 (wrap64 ((b5) + a4))).f2)).bind fun h9 => (if h9 = true then ((laws_sameBits.f ((rd_T60 c5 a4).f3) ((rd_T60 a2 (wrap64 ((b5) + a4))).f3)).bind fun h6 => (laws_FnFlown.j4 k4 l0 a2 (b5) c5 a4 (!h6))) else (laws_FnFlown.j4 k4 l0 a2 (b5) c5 a4 true))) else (laws_FnFlown.j4 k4 l0 a2 (b5) c5 a4 true))) else (laws_FnFlown.j4 k4 l0 a2 (b5) c5 a4 true))) else (none)) else (none)) = some r := by first | (rw [l7]; with_reducible exact H) | (have H2_ := (Option.bind_some _ _).symm.trans H; rw [l7]; with_reducible exact H2_) | (have H2_ := (Option.bind_some _ _).symm.trans H; with_reducible exact H2_) | with_reducible exact H | (rw [l7]; exact H) | exact H
                    have Nfr393_2 := mk_ l7; clear l7
                    obtain ⟨fr393_3, l8⟩ : ∃ y_ : Fl, y_ = ((rd_T60 c5 a4).f3) := ⟨_, rfl⟩
                    replace H : (if 0 ≤ (wrap64 ((b5) + a4)) then (if (wrap64 ((b5) + a4)) < (a2.length : Int) then ((laws_sameBits.f fr393_0 ((rd_T60 a2 (wrap64 ((b5) + a4))).f0)).bind fun h7 => (if h7 = true then ((laws_sameBits.f fr393_1 ((rd_T60 a2 (wrap64 ((b5) + a4))).f1)).bind fun h8 => (if h8 = true then ((laws_sameBits.f fr393_2 ((rd_T60 a2 (wrap64 ((b5) + a4))).f2)).bind fun h9 => (if h9 = true then ((laws_sameBits.f fr393_3 ((rd_T60 a2 (wrap64 ((b5) + a4))).f3)).bind fun h6 => (laws_FnFlown.j4 k4 l0 a2 (b5) c5 a4 (!h6))) else (laws_FnFlown.j4 k4 l0 a2 (b5) c5 a4 true))) else (laws_FnFlown.j4 k4 l0 a2 (b5) c5 a4 true))) else (laws_FnFlown.j4 k4 l0 a2 (b5) c5 a4 true))) else (none)) else (none)) = some r := by first | (rw [l8]; with_reducible exact H) | (have H2_ := (Option.bind_some _ _).symm.trans H; rw [l8]; with_reducible exact H2_) | (have H2_ := (Option.bind_some _ _).symm.trans H; with_reducible exact H2_) | with_reducible exact H | (rw [l8]; exact H) | exact H
                    have Nfr393_3 := mk_ l8; clear l8
                    obtain ⟨c8, t5⟩ : ∃ j_ : Int, (wrap64 ((b5) + a4)) = j_ := ⟨_, rfl⟩
                    replace H : (if 0 ≤ (c8) then (if (c8) < (a2.length : Int) then ((laws_sameBits.f fr393_0 ((rd_T60 a2 (c8)).f0)).bind fun h7 => (if h7 = true then ((laws_sameBits.f fr393_1 ((rd_T60 a2 (c8)).f1)).bind fun h8 => (if h8 = true then ((laws_sameBits.f fr393_2 ((rd_T60 a2 (c8)).f2)).bind fun h9 => (if h9 = true then ((laws_sameBits.f fr393_3 ((rd_T60 a2 (c8)).f3)).bind fun h6 => (laws_FnFlown.j4 k4 l0 a2 (b5) c5 a4 (!h6))) else (laws_FnFlown.j4 k4 l0 a2 (b5) c5 a4 true))) else (laws_FnFlown.j4 k4 l0 a2 (b5) c5 a4 true))) else (laws_FnFlown.j4 k4 l0 a2 (b5) c5 a4 true))) else (none)) else (none)) = some r := by first | (rw [t5] at H; exact H) | (simp only [t5] at H ⊢; exact H)
                    have hji44w : (IntKind.i64.wrap ((b5) + a4)) = c8 := (i64_w _).trans t5
                    (try simp only [t5])
                    by_cases J5 : 0 ≤ (c8)
                    ·rw [if_pos J5] at H; have J6 : decide (0 ≤ (c8)) = true := decide_eq_true J5; clear J5; by_cases J7 : (c8) < (a2.length : Int)
                     ·rw [if_pos J7] at H; have an6 : decide ((c8) < (a2.length : Int)) = true := decide_eq_true J7; clear J7
                      obtain ⟨fr394_0, l9⟩ : ∃ y_ : Fl, y_ = ((rd_T60 a2 (c8)).f0) := ⟨_, rfl⟩
                      replace H : ((laws_sameBits.f fr393_0 fr394_0).bind fun h7 => (if h7 = true then ((laws_sameBits.f fr393_1 ((rd_T60 a2 (c8)).f1)).bind fun h8 => (if h8 = true then ((laws_sameBits.f fr393_2 ((rd_T60 a2 (c8)).f2)).bind fun h9 => (if h9 = true then ((laws_sameBits.f fr393_3 ((rd_T60 a2 (c8)).f3)).bind fun h6 => (laws_FnFlown.j4 k4 l0 a2 (b5) c5 a4 (!h6))) else (laws_FnFlown.j4 k4 l0 a2 (b5) c5 a4 true))) else (laws_FnFlown.j4 k4 l0 a2 (b5) c5 a4 true))) else (laws_FnFlown.j4 k4 l0 a2 (b5) c5 a4 true))) = some r := by first | (rw [l9]; with_reducible exact H) | (have H2_ := (Option.bind_some _ _).symm.trans H; rw [l9]; with_reducible exact H2_) | (have H2_ := (Option.bind_some _ _).symm.trans H; with_reducible exact H2_) | with_reducible exact H | (rw [l9]; exact H) | exact H
                      have Nfr394_0 := mk_ l9; clear l9
                      obtain ⟨fr394_1, m0⟩ : ∃ y_ : Fl, y_ = ((rd_T60 a2 (c8)).f1) := ⟨_, rfl⟩
                      replace H : ((laws_sameBits.f fr393_0 fr394_0).bind fun h7 => (if h7 = true then ((laws_sameBits.f fr393_1 fr394_1).bind fun h8 => (if h8 = true then ((laws_sameBits.f fr393_2 ((rd_T60 a2 (c8)).f2)).bind fun h9 => (if h9 = true then ((laws_sameBits.f fr393_3 ((rd_T60 a2 (c8)).f3)).bind fun h6 => (laws_FnFlown.j4 k4 l0 a2 (b5) c5 a4 (!h6))) else (laws_FnFlown.j4 k4 l0 a2 (b5) c5 a4 true))) else (laws_FnFlown.j4 k4 l0 a2 (b5) c5 a4 true))) else (laws_FnFlown.j4 k4 l0 a2 (b5) c5 a4 true))) = some r := by first | (rw [m0]; with_reducible exact H) | (have H2_ := (Option.bind_some _ _).symm.trans H; rw [m0]; with_reducible exact H2_) | (have H2_ := (Option.bind_some _ _).symm.trans H; with_reducible exact H2_) | with_reducible exact H | (rw [m0]; exact H) | exact H
                      have Nfr394_1 := mk_ m0; clear m0
                      obtain ⟨fr394_2, m1⟩ : ∃ y_ : Fl, y_ = ((rd_T60 a2 (c8)).f2) := ⟨_, rfl⟩
                      replace H : ((laws_sameBits.f fr393_0 fr394_0).bind fun h7 => (if h7 = true then ((laws_sameBits.f fr393_1 fr394_1).bind fun h8 => (if h8 = true then ((laws_sameBits.f fr393_2 fr394_2).bind fun h9 => (if h9 = true then ((laws_sameBits.f fr393_3 ((rd_T60 a2 (c8)).f3)).bind fun h6 => (laws_FnFlown.j4 k4 l0 a2 (b5) c5 a4 (!h6))) else (laws_FnFlown.j4 k4 l0 a2 (b5) c5 a4 true))) else (laws_FnFlown.j4 k4 l0 a2 (b5) c5 a4 true))) else (laws_FnFlown.j4 k4 l0 a2 (b5) c5 a4 true))) = some r := by first | (rw [m1]; with_reducible exact H) | (have H2_ := (Option.bind_some _ _).symm.trans H; rw [m1]; with_reducible exact H2_) | (have H2_ := (Option.bind_some _ _).symm.trans H; with_reducible exact H2_) | with_reducible exact H | (rw [m1]; exact H) | exact H
                      have Nfr394_2 := mk_ m1; clear m1
                      obtain ⟨fr394_3, m2⟩ : ∃ y_ : Fl, y_ = ((rd_T60 a2 (c8)).f3) := ⟨_, rfl⟩
                      replace H : ((laws_sameBits.f fr393_0 fr394_0).bind fun h7 => (if h7 = true then ((laws_sameBits.f fr393_1 fr394_1).bind fun h8 => (if h8 = true then ((laws_sameBits.f fr393_2 fr394_2).bind fun h9 => (if h9 = true then ((laws_sameBits.f fr393_3 fr394_3).bind fun h6 => (laws_FnFlown.j4 k4 l0 a2 (b5) c5 a4 (!h6))) else (laws_FnFlown.j4 k4 l0 a2 (b5) c5 a4 true))) else (laws_FnFlown.j4 k4 l0 a2 (b5) c5 a4 true))) else (laws_FnFlown.j4 k4 l0 a2 (b5) c5 a4 true))) = some r := by first | (rw [m2]; with_reducible exact H) | (have H2_ := (Option.bind_some _ _).symm.trans H; rw [m2]; with_reducible exact H2_) | (have H2_ := (Option.bind_some _ _).symm.trans H; with_reducible exact H2_) | with_reducible exact H | (rw [m2]; exact H) | exact H
                      have Nfr394_3 := mk_ m2; clear m2; have H2 := mk_ H; clear H; obtain ⟨aq3, D8, al9⟩ := Kd.R_slice a1.out; subst al9
                      try go_wp2
                      replace a3 := dR_ a3; replace a1 := dR_ a1; replace HB := dH_ HB
                      have H3 : 0 ≤ (a4 : Int) := od_
                      have H4 : a4 < (c5.length : Int) := od_
                      obtain ⟨d1, b_fr393_0, b_fr393_1, b_fr393_2, b_fr393_3, am0, C6, C7, C8, C9, hF393_0, hF393_1, hF393_2, hF393_3⟩ := at_T60 (rr_ a1) a4 H3 H4
                      have hF_fr393_0 := hF393_0.trans Nfr393_0.out.symm
                      clear hF393_0
                      have hF_fr393_1 := hF393_1.trans Nfr393_1.out.symm
                      clear hF393_1
                      have hF_fr393_2 := hF393_2.trans Nfr393_2.out.symm
                      clear hF393_2
                      have hF_fr393_3 := hF393_3.trans Nfr393_3.out.symm
                      clear hF393_3; cases am0; replace H3 := eq_true H3; replace H4 := eq_true H4
                      have H5 : 0 ≤ ((c8) : Int) := od_
                      have H6 : (c8) < (a2.length : Int) := od_
                      obtain ⟨J8, b_fr394_0, b_fr394_1, b_fr394_2, b_fr394_3, am1, D0, D1, D2, D3, hF394_0, hF394_1, hF394_2, hF394_3⟩ := at_T60 (rr_ a3) (c8) H5 H6
                      have hF_fr394_0 := hF394_0.trans Nfr394_0.out.symm
                      clear hF394_0
                      have hF_fr394_1 := hF394_1.trans Nfr394_1.out.symm
                      clear hF394_1
                      have hF_fr394_2 := hF394_2.trans Nfr394_2.out.symm
                      clear hF394_2
                      have hF_fr394_3 := hF394_3.trans Nfr394_3.out.symm
                      clear hF394_3; obtain rfl : c7 = J8 := (by injection am1); replace H5 := eq_true H5; replace H6 := eq_true H6
                      refine start_ (n := 14) (S := fun w' => w'.cell? (d1.add ((a4).toNat * 4)) = some (.float .f64 b_fr393_0) ∧ w'.cell? ⟨(d1.add ((a4).toNat * 4)).block, (d1.add ((a4).toNat * 4)).off + 1, none⟩ = some (.float .f64 b_fr393_1) ∧ w'.cell? ⟨(d1.add ((a4).toNat * 4)).block, (d1.add ((a4).toNat * 4)).off + 2, none⟩ = some (.float .f64 b_fr393_2) ∧ w'.cell? ⟨(d1.add ((a4).toNat * 4)).block, (d1.add ((a4).toNat * 4)).off + 3, none⟩ = some (.float .f64 b_fr393_3) ∧ w'.cell? (c7.add (((c8)).toNat * 4)) = some (.float .f64 b_fr394_0) ∧ w'.cell? ⟨(c7.add (((c8)).toNat * 4)).block, (c7.add (((c8)).toNat * 4)).off + 1, none⟩ = some (.float .f64 b_fr394_1) ∧ w'.cell? ⟨(c7.add (((c8)).toNat * 4)).block, (c7.add (((c8)).toNat * 4)).off + 2, none⟩ = some (.float .f64 b_fr394_2) ∧ w'.cell? ⟨(c7.add (((c8)).toNat * 4)).block, (c7.add (((c8)).toNat * 4)).off + 3, none⟩ = some (.float .f64 b_fr394_3)) (ds := []) (bs_ 14 0) (by kernel_rfl) rfl (by kernel_rfl) ⟨C6, C7, C8, C9, D0, D1, D2, D3⟩ (fun hHeld => ?_); refine with_tabW laws_FnFlown.tab16 laws_FnFlown.bits16 (fun HT_ HW_ => ?_)
                      generalize wr.drew = w49 at a3 a1 HB C6 C7 C8 C9 D0 D1 D2 D3 hHeld ⊢
                      refine pu_ HT_ 0 98 (bs_ 14 1) ?_; refine pu_ HT_ 1 99 (bs_ 14 3) ?_; refine pu_ HT_ 2 100 (bs_ 14 7) ?_; refine pu_ HT_ 4 102 (bs_ 14 23) ?_; refine pu_ HT_ 5 103 (bs_ 14 55) ?_; refine pu_ HT_ 6 104 (bs_ 14 119) ?_; refine pu_ HT_ 7 105 (bs_ 14 247) ?_; refine pu_ HT_ 8 106 (bs_ 14 503) ?_; refine tk_ HT_ HW_ 3 101 (bs_ 14 511) hHeld ?_; refine tk_ HT_ HW_ 9 107 (bs_ 14 1023) hHeld ?_
                      refine join_ (σ := Nat × Nat) 2 (bs_ 14 4095) (fun s_ => [(15, .pointer (some ⟨s_.1, 0, none⟩)), (16, .pointer (some ⟨s_.2, 0, none⟩))]) (fun s_ w' => (w'.cell? (d1.add ((a4).toNat * 4)) = some (.float .f64 b_fr393_0) ∧ w'.cell? ⟨(d1.add ((a4).toNat * 4)).block, (d1.add ((a4).toNat * 4)).off + 1, none⟩ = some (.float .f64 b_fr393_1) ∧ w'.cell? ⟨(d1.add ((a4).toNat * 4)).block, (d1.add ((a4).toNat * 4)).off + 2, none⟩ = some (.float .f64 b_fr393_2) ∧ w'.cell? ⟨(d1.add ((a4).toNat * 4)).block, (d1.add ((a4).toNat * 4)).off + 3, none⟩ = some (.float .f64 b_fr393_3) ∧ w'.cell? (c7.add (((c8)).toNat * 4)) = some (.float .f64 b_fr394_0) ∧ w'.cell? ⟨(c7.add (((c8)).toNat * 4)).block, (c7.add (((c8)).toNat * 4)).off + 1, none⟩ = some (.float .f64 b_fr394_1) ∧ w'.cell? ⟨(c7.add (((c8)).toNat * 4)).block, (c7.add (((c8)).toNat * 4)).off + 2, none⟩ = some (.float .f64 b_fr394_2) ∧ w'.cell? ⟨(c7.add (((c8)).toNat * 4)).block, (c7.add (((c8)).toNat * 4)).off + 3, none⟩ = some (.float .f64 b_fr394_3)) ∧ (Kd.R k60 60 w' w.heap.size (fun k_ => some k_ ≠ (.slice (some c7) a2.length p0 : Value).ownBlock ∧ k_ ≠ s_.1 ∧ k_ ≠ s_.2) (.slice (some d1) c5.length D8) c5) ∧ (Kd.R k60 60 w' w.heap.size (fun k_ => some k_ ≠ (.slice (some d1) c5.length D8 : Value).ownBlock ∧ k_ ≠ s_.1 ∧ k_ ≠ s_.2) (.slice (some c7) a2.length p0) a2) ∧ (w'.heap[s_.1]? = some (.cells #[.float .f64 0, .float .f64 0, .float .f64 0, .float .f64 0] 60 (0, 0))) ∧ (w'.heap[s_.2]? = some (.cells #[.float .f64 0, .float .f64 0, .float .f64 0, .float .f64 0] 60 (0, 0))) ∧ (w.heap.size ≤ s_.1) ∧ (w.heap.size ≤ s_.1) ∧ (s_.2 ≠ s_.1) ∧ (s_.1 ≠ s_.2) ∧ (w.heap.size ≤ s_.2) ∧ (w.heap.size ≤ s_.2) ∧ (Below w.heap.size w w')) ?_ ?_
                      rotate_left
                      ·intro hCont
                       refine two_ (i := 10) (j := 11) (Ni := some 15) (Nj := some 16) (bs_ 14 2047) (bs_ 14 3071) rfl rfl rfl rfl (two_of HT_.out (by kernel_rfl)) (by decide) (by decide) (fun K hK => ?_) (fun K hK => ?_)
                       ·skip
                        refine box_step ?hg (N := 15) ?hd (cs := #[.float .f64 0, .float .f64 0, .float .f64 0, .float .f64 0]) (t := 60) ?hr ?_; (case hd => rfl); (case hg => rfl); (case hr => exact hr_)
                        intro a5 hg w50 hbox hb
                        have A7 := (hb.cell (World.block_lt_of_cell? _ _ (hHeld.1))).trans (hHeld.1)
                        have A8 := (hb.cell (World.block_lt_of_cell? _ _ (hHeld.2.1))).trans (hHeld.2.1)
                        have A9 := (hb.cell (World.block_lt_of_cell? _ _ (hHeld.2.2.1))).trans (hHeld.2.2.1)
                        have B0 := (hb.cell (World.block_lt_of_cell? _ _ (hHeld.2.2.2.1))).trans (hHeld.2.2.2.1)
                        have B1 := (hb.cell (World.block_lt_of_cell? _ _ (hHeld.2.2.2.2.1))).trans (hHeld.2.2.2.2.1)
                        have q5 := (hb.cell (World.block_lt_of_cell? _ _ (hHeld.2.2.2.2.2.1))).trans (hHeld.2.2.2.2.2.1)
                        have q6 := (hb.cell (World.block_lt_of_cell? _ _ (hHeld.2.2.2.2.2.2.1))).trans (hHeld.2.2.2.2.2.2.1)
                        have q7 := (hb.cell (World.block_lt_of_cell? _ _ (hHeld.2.2.2.2.2.2.2))).trans (hHeld.2.2.2.2.2.2.2)
                        replace a3 := mk_ (Kd.R_below (Kd.R_elderB (kx_ a3) a5 (Nat.le_of_eq hg.symm)) hb); replace a1 := mk_ (Kd.R_below (Kd.R_elderB (kx_ a1) a5 (Nat.le_of_eq hg.symm)) hb); have b6 := mk_ (hbox); have D4 := gk_ hg HB; have n9 := gk_ hg HB; replace HB := hk_ HB hb
                        clear hb hbox hg
                        refine hK.out _ _ ⟨A7, A8, A9, B0, B1, q5, q6, q7⟩ (fun hHeld => ?_)
                        clear hK K; refine nm_ 15 ?_
                        refine one_ (i := 11) (N := some 16) (bs_ 14 4095) rfl rfl (one_of HT_.out (by kernel_rfl)) (by decide) (fun K hK => ?_)
                        refine box_step ?hg (N := 16) ?hd (cs := #[.float .f64 0, .float .f64 0, .float .f64 0, .float .f64 0]) (t := 60) ?hr ?_; (case hd => rfl); (case hg => rfl); (case hr => exact hr_)
                        intro a6 hg w51 hbox hb
                        have A7 := (hb.cell (World.block_lt_of_cell? _ _ (hHeld.1))).trans (hHeld.1)
                        have A8 := (hb.cell (World.block_lt_of_cell? _ _ (hHeld.2.1))).trans (hHeld.2.1)
                        have A9 := (hb.cell (World.block_lt_of_cell? _ _ (hHeld.2.2.1))).trans (hHeld.2.2.1)
                        have B0 := (hb.cell (World.block_lt_of_cell? _ _ (hHeld.2.2.2.1))).trans (hHeld.2.2.2.1)
                        have B1 := (hb.cell (World.block_lt_of_cell? _ _ (hHeld.2.2.2.2.1))).trans (hHeld.2.2.2.2.1)
                        have q5 := (hb.cell (World.block_lt_of_cell? _ _ (hHeld.2.2.2.2.2.1))).trans (hHeld.2.2.2.2.2.1)
                        have q6 := (hb.cell (World.block_lt_of_cell? _ _ (hHeld.2.2.2.2.2.2.1))).trans (hHeld.2.2.2.2.2.2.1)
                        have q7 := (hb.cell (World.block_lt_of_cell? _ _ (hHeld.2.2.2.2.2.2.2))).trans (hHeld.2.2.2.2.2.2.2)
                        replace a3 := mk_ (Kd.R_below (Kd.R_elderB (kx_ a3) a6 (Nat.le_of_eq hg.symm)) hb); replace a1 := mk_ (Kd.R_below (Kd.R_elderB (kx_ a1) a6 (Nat.le_of_eq hg.symm)) hb); have b7 := mk_ (hbox); have D5 := gk_ hg HB; have o0 := gk_ hg HB; replace HB := hk_ HB hb; have a8 := nk_ hg b6; have a9 := nj_ hg b6; replace b6 := bk_ b6 hb
                        clear hb hbox hg
                        refine hK.out _ _ ⟨A7, A8, A9, B0, B1, q5, q6, q7⟩ (fun hHeld => ?_)
                        clear hK K; refine nm_ 16 ?_
                        exact norm_ (by simp only [putAll, Act.put, List.setIfInBounds_toArray, List.set_cons_zero, List.set_cons_succ]) (hCont (a5, a6) _ ⟨hHeld, (by (with_reducible repeat (first | apply Kd.R_alloc | apply Kd.R_drewN | apply Kd.R_drew)); exact Kd.R_mono a1.out (fun _ hk => ⟨hk.1.1, ⟨hk.1.2, hk.2⟩⟩)), (by (with_reducible repeat (first | apply Kd.R_alloc | apply Kd.R_drewN | apply Kd.R_drew)); exact Kd.R_mono a3.out (fun _ hk => ⟨hk.1.1, ⟨hk.1.2, hk.2⟩⟩)), (bx_ b6), (bx_ b7), D4.out, n9.out, a9.out, a8.out, D5.out, o0.out, (hw_ HB)⟩)
                       ·skip
                        refine box_step ?hg (N := 16) ?hd (cs := #[.float .f64 0, .float .f64 0, .float .f64 0, .float .f64 0]) (t := 60) ?hr ?_; (case hd => rfl); (case hg => rfl); (case hr => exact hr_)
                        intro a6 hg w50 hbox hb
                        have A7 := (hb.cell (World.block_lt_of_cell? _ _ (hHeld.1))).trans (hHeld.1)
                        have A8 := (hb.cell (World.block_lt_of_cell? _ _ (hHeld.2.1))).trans (hHeld.2.1)
                        have A9 := (hb.cell (World.block_lt_of_cell? _ _ (hHeld.2.2.1))).trans (hHeld.2.2.1)
                        have B0 := (hb.cell (World.block_lt_of_cell? _ _ (hHeld.2.2.2.1))).trans (hHeld.2.2.2.1)
                        have B1 := (hb.cell (World.block_lt_of_cell? _ _ (hHeld.2.2.2.2.1))).trans (hHeld.2.2.2.2.1)
                        have q5 := (hb.cell (World.block_lt_of_cell? _ _ (hHeld.2.2.2.2.2.1))).trans (hHeld.2.2.2.2.2.1)
                        have q6 := (hb.cell (World.block_lt_of_cell? _ _ (hHeld.2.2.2.2.2.2.1))).trans (hHeld.2.2.2.2.2.2.1)
                        have q7 := (hb.cell (World.block_lt_of_cell? _ _ (hHeld.2.2.2.2.2.2.2))).trans (hHeld.2.2.2.2.2.2.2)
                        replace a3 := mk_ (Kd.R_below (Kd.R_elderB (kx_ a3) a6 (Nat.le_of_eq hg.symm)) hb); replace a1 := mk_ (Kd.R_below (Kd.R_elderB (kx_ a1) a6 (Nat.le_of_eq hg.symm)) hb); have b7 := mk_ (hbox); have D5 := gk_ hg HB; have o0 := gk_ hg HB; replace HB := hk_ HB hb
                        clear hb hbox hg
                        refine hK.out _ _ ⟨A7, A8, A9, B0, B1, q5, q6, q7⟩ (fun hHeld => ?_)
                        clear hK K; refine nm_ 16 ?_
                        refine one_ (i := 10) (N := some 15) (bs_ 14 4095) rfl rfl (one_of HT_.out (by kernel_rfl)) (by decide) (fun K hK => ?_)
                        refine box_step ?hg (N := 15) ?hd (cs := #[.float .f64 0, .float .f64 0, .float .f64 0, .float .f64 0]) (t := 60) ?hr ?_; (case hd => rfl); (case hg => rfl); (case hr => exact hr_)
                        intro a5 hg w51 hbox hb
                        have A7 := (hb.cell (World.block_lt_of_cell? _ _ (hHeld.1))).trans (hHeld.1)
                        have A8 := (hb.cell (World.block_lt_of_cell? _ _ (hHeld.2.1))).trans (hHeld.2.1)
                        have A9 := (hb.cell (World.block_lt_of_cell? _ _ (hHeld.2.2.1))).trans (hHeld.2.2.1)
                        have B0 := (hb.cell (World.block_lt_of_cell? _ _ (hHeld.2.2.2.1))).trans (hHeld.2.2.2.1)
                        have B1 := (hb.cell (World.block_lt_of_cell? _ _ (hHeld.2.2.2.2.1))).trans (hHeld.2.2.2.2.1)
                        have q5 := (hb.cell (World.block_lt_of_cell? _ _ (hHeld.2.2.2.2.2.1))).trans (hHeld.2.2.2.2.2.1)
                        have q6 := (hb.cell (World.block_lt_of_cell? _ _ (hHeld.2.2.2.2.2.2.1))).trans (hHeld.2.2.2.2.2.2.1)
                        have q7 := (hb.cell (World.block_lt_of_cell? _ _ (hHeld.2.2.2.2.2.2.2))).trans (hHeld.2.2.2.2.2.2.2)
                        replace a3 := mk_ (Kd.R_below (Kd.R_elderB (kx_ a3) a5 (Nat.le_of_eq hg.symm)) hb); replace a1 := mk_ (Kd.R_below (Kd.R_elderB (kx_ a1) a5 (Nat.le_of_eq hg.symm)) hb); have b6 := mk_ (hbox); have D4 := gk_ hg HB; have n9 := gk_ hg HB; replace HB := hk_ HB hb; have a9 := nk_ hg b7; have a8 := nj_ hg b7; replace b7 := bk_ b7 hb
                        clear hb hbox hg
                        refine hK.out _ _ ⟨A7, A8, A9, B0, B1, q5, q6, q7⟩ (fun hHeld => ?_)
                        clear hK K; refine nm_ 15 ?_
                        exact norm_ (by simp only [putAll, Act.put, List.setIfInBounds_toArray, List.set_cons_zero, List.set_cons_succ]) (hCont (a5, a6) _ ⟨hHeld, (by (with_reducible repeat (first | apply Kd.R_alloc | apply Kd.R_drewN | apply Kd.R_drew)); exact Kd.R_mono a1.out (fun _ hk => ⟨hk.1.1, ⟨hk.2, hk.1.2⟩⟩)), (by (with_reducible repeat (first | apply Kd.R_alloc | apply Kd.R_drewN | apply Kd.R_drew)); exact Kd.R_mono a3.out (fun _ hk => ⟨hk.1.1, ⟨hk.2, hk.1.2⟩⟩)), (bx_ b6), (bx_ b7), D4.out, n9.out, a9.out, a8.out, D5.out, o0.out, (hw_ HB)⟩)
                      rintro ⟨a5, a6⟩ p5 ⟨hS_, h0_, h1_, h2_, h3_, h4_, h5_, h6_, h7_, h8_, h9_, J9⟩
                      replace a1 : Aside0 (Kd.R k60 60 p5 w.heap.size (fun k_ => some k_ ≠ (.slice (some c7) a2.length p0 : Value).ownBlock ∧ k_ ≠ a5 ∧ k_ ≠ a6) (.slice (some d1) c5.length D8) c5) := ⟨h0_⟩; replace a3 : Aside0 (Kd.R k60 60 p5 w.heap.size (fun k_ => some k_ ≠ (.slice (some d1) c5.length D8 : Value).ownBlock ∧ k_ ≠ a5 ∧ k_ ≠ a6) (.slice (some c7) a2.length p0) a2) := ⟨h1_⟩; have b6 : Aside0 (p5.heap[a5]? = some (.cells #[.float .f64 0, .float .f64 0, .float .f64 0, .float .f64 0] 60 (0, 0))) := ⟨h2_⟩; have b7 : Aside0 (p5.heap[a6]? = some (.cells #[.float .f64 0, .float .f64 0, .float .f64 0, .float .f64 0] 60 (0, 0))) := ⟨h3_⟩; have D4 : Aside0 (w.heap.size ≤ a5) := ⟨h4_⟩; have n9 : Aside0 (w.heap.size ≤ a5) := ⟨h5_⟩; have a9 : Aside0 (a6 ≠ a5) := ⟨h6_⟩; have a8 : Aside0 (a5 ≠ a6) := ⟨h7_⟩; have D5 : Aside0 (w.heap.size ≤ a6) := ⟨h8_⟩; have o0 : Aside0 (w.heap.size ≤ a6) := ⟨h9_⟩; replace HB : Aside0 (Below w.heap.size w p5) := ⟨J9⟩; clear h0_ h1_ h2_ h3_ h4_ h5_ h6_ h7_ h8_ h9_ J9
                      have hHeld : p5.cell? (d1.add ((a4).toNat * 4)) = some (.float .f64 b_fr393_0) ∧ p5.cell? ⟨(d1.add ((a4).toNat * 4)).block, (d1.add ((a4).toNat * 4)).off + 1, none⟩ = some (.float .f64 b_fr393_1) ∧ p5.cell? ⟨(d1.add ((a4).toNat * 4)).block, (d1.add ((a4).toNat * 4)).off + 2, none⟩ = some (.float .f64 b_fr393_2) ∧ p5.cell? ⟨(d1.add ((a4).toNat * 4)).block, (d1.add ((a4).toNat * 4)).off + 3, none⟩ = some (.float .f64 b_fr393_3) ∧ p5.cell? (c7.add (((c8)).toNat * 4)) = some (.float .f64 b_fr394_0) ∧ p5.cell? ⟨(c7.add (((c8)).toNat * 4)).block, (c7.add (((c8)).toNat * 4)).off + 1, none⟩ = some (.float .f64 b_fr394_1) ∧ p5.cell? ⟨(c7.add (((c8)).toNat * 4)).block, (c7.add (((c8)).toNat * 4)).off + 2, none⟩ = some (.float .f64 b_fr394_2) ∧ p5.cell? ⟨(c7.add (((c8)).toNat * 4)).block, (c7.add (((c8)).toNat * 4)).off + 3, none⟩ = some (.float .f64 b_fr394_3) := hS_
                      refine norm_ (a' := ?_) ?_ ?_
                      rotate_left
                      ·simp only [putAll, Act.put, List.setIfInBounds_toArray, List.set_cons_zero, List.set_cons_succ]
                       rfl
                      refine one_ (i := 12) (N := none) (bs_ 14 8191) rfl rfl (one_of HT_.out (by kernel_rfl)) (by decide) (fun K hK => ?_)
                      have aq4 : p5.cell? ⟨a5, 0, none⟩ = some (.float .f64 0) := bc0_ b6
                      have an7 := blk_frozen b6.out 0
                      have aa4 := a9.out; have aa5 := a8.out
                      have aq5 : p5.cell? ⟨a5, 1, none⟩ = some (.float .f64 0) := bc1_ b6
                      have an8 := blk_frozen b6.out 1
                      have aa6 := a9.out; have aa7 := a8.out
                      have aq6 : p5.cell? ⟨a5, 2, none⟩ = some (.float .f64 0) := bc2_ b6
                      have an9 := blk_frozen b6.out 2
                      have aa8 := a9.out; have aa9 := a8.out
                      have aq7 : p5.cell? ⟨a5, 3, none⟩ = some (.float .f64 0) := bc3_ b6
                      have ao0 := blk_frozen b6.out 3
                      have ab0 := a9.out; have ab1 := a8.out
                      refine skip_ (w1 := ?_) (by rfl) rfl ?_ ?_
                      rotate_left
                      ·go_simp
                       rfl
                      refine hK.out _ _ ⟨((cell_far (p := ⟨a5, _, none⟩) (by first | exact Kd.own_blk (Kd.R_away a1.out (fun _ hk => hk.2.1)) | (rw [add_block]; exact Kd.own_blk (Kd.R_away a1.out (fun _ hk => hk.2.1))) | (show (Addr.add _ _).block ≠ _; rw [add_block]; exact Kd.own_blk (Kd.R_away a1.out (fun _ hk => hk.2.1))) | (dsimp only; exact Kd.own_blk (Kd.R_away a1.out (fun _ hk => hk.2.1)))) _).trans (((cell_far (p := ⟨a5, _, none⟩) (by first | exact Kd.own_blk (Kd.R_away a1.out (fun _ hk => hk.2.1)) | (rw [add_block]; exact Kd.own_blk (Kd.R_away a1.out (fun _ hk => hk.2.1))) | (show (Addr.add _ _).block ≠ _; rw [add_block]; exact Kd.own_blk (Kd.R_away a1.out (fun _ hk => hk.2.1))) | (dsimp only; exact Kd.own_blk (Kd.R_away a1.out (fun _ hk => hk.2.1)))) _).trans (((cell_far (p := ⟨a5, _, none⟩) (by first | exact Kd.own_blk (Kd.R_away a1.out (fun _ hk => hk.2.1)) | (rw [add_block]; exact Kd.own_blk (Kd.R_away a1.out (fun _ hk => hk.2.1))) | (show (Addr.add _ _).block ≠ _; rw [add_block]; exact Kd.own_blk (Kd.R_away a1.out (fun _ hk => hk.2.1))) | (dsimp only; exact Kd.own_blk (Kd.R_away a1.out (fun _ hk => hk.2.1)))) _).trans (((cell_far (p := ⟨a5, _, none⟩) (by first | exact Kd.own_blk (Kd.R_away a1.out (fun _ hk => hk.2.1)) | (rw [add_block]; exact Kd.own_blk (Kd.R_away a1.out (fun _ hk => hk.2.1))) | (show (Addr.add _ _).block ≠ _; rw [add_block]; exact Kd.own_blk (Kd.R_away a1.out (fun _ hk => hk.2.1))) | (dsimp only; exact Kd.own_blk (Kd.R_away a1.out (fun _ hk => hk.2.1)))) _).trans (hHeld.1)))))))), ((cell_far (p := ⟨a5, _, none⟩) (by first | exact Kd.own_blk (Kd.R_away a1.out (fun _ hk => hk.2.1)) | (rw [add_block]; exact Kd.own_blk (Kd.R_away a1.out (fun _ hk => hk.2.1))) | (show (Addr.add _ _).block ≠ _; rw [add_block]; exact Kd.own_blk (Kd.R_away a1.out (fun _ hk => hk.2.1))) | (dsimp only; exact Kd.own_blk (Kd.R_away a1.out (fun _ hk => hk.2.1)))) _).trans (((cell_far (p := ⟨a5, _, none⟩) (by first | exact Kd.own_blk (Kd.R_away a1.out (fun _ hk => hk.2.1)) | (rw [add_block]; exact Kd.own_blk (Kd.R_away a1.out (fun _ hk => hk.2.1))) | (show (Addr.add _ _).block ≠ _; rw [add_block]; exact Kd.own_blk (Kd.R_away a1.out (fun _ hk => hk.2.1))) | (dsimp only; exact Kd.own_blk (Kd.R_away a1.out (fun _ hk => hk.2.1)))) _).trans (((cell_far (p := ⟨a5, _, none⟩) (by first | exact Kd.own_blk (Kd.R_away a1.out (fun _ hk => hk.2.1)) | (rw [add_block]; exact Kd.own_blk (Kd.R_away a1.out (fun _ hk => hk.2.1))) | (show (Addr.add _ _).block ≠ _; rw [add_block]; exact Kd.own_blk (Kd.R_away a1.out (fun _ hk => hk.2.1))) | (dsimp only; exact Kd.own_blk (Kd.R_away a1.out (fun _ hk => hk.2.1)))) _).trans (((cell_far (p := ⟨a5, _, none⟩) (by first | exact Kd.own_blk (Kd.R_away a1.out (fun _ hk => hk.2.1)) | (rw [add_block]; exact Kd.own_blk (Kd.R_away a1.out (fun _ hk => hk.2.1))) | (show (Addr.add _ _).block ≠ _; rw [add_block]; exact Kd.own_blk (Kd.R_away a1.out (fun _ hk => hk.2.1))) | (dsimp only; exact Kd.own_blk (Kd.R_away a1.out (fun _ hk => hk.2.1)))) _).trans (hHeld.2.1)))))))), ((cell_far (p := ⟨a5, _, none⟩) (by first | exact Kd.own_blk (Kd.R_away a1.out (fun _ hk => hk.2.1)) | (rw [add_block]; exact Kd.own_blk (Kd.R_away a1.out (fun _ hk => hk.2.1))) | (show (Addr.add _ _).block ≠ _; rw [add_block]; exact Kd.own_blk (Kd.R_away a1.out (fun _ hk => hk.2.1))) | (dsimp only; exact Kd.own_blk (Kd.R_away a1.out (fun _ hk => hk.2.1)))) _).trans (((cell_far (p := ⟨a5, _, none⟩) (by first | exact Kd.own_blk (Kd.R_away a1.out (fun _ hk => hk.2.1)) | (rw [add_block]; exact Kd.own_blk (Kd.R_away a1.out (fun _ hk => hk.2.1))) | (show (Addr.add _ _).block ≠ _; rw [add_block]; exact Kd.own_blk (Kd.R_away a1.out (fun _ hk => hk.2.1))) | (dsimp only; exact Kd.own_blk (Kd.R_away a1.out (fun _ hk => hk.2.1)))) _).trans (((cell_far (p := ⟨a5, _, none⟩) (by first | exact Kd.own_blk (Kd.R_away a1.out (fun _ hk => hk.2.1)) | (rw [add_block]; exact Kd.own_blk (Kd.R_away a1.out (fun _ hk => hk.2.1))) | (show (Addr.add _ _).block ≠ _; rw [add_block]; exact Kd.own_blk (Kd.R_away a1.out (fun _ hk => hk.2.1))) | (dsimp only; exact Kd.own_blk (Kd.R_away a1.out (fun _ hk => hk.2.1)))) _).trans (((cell_far (p := ⟨a5, _, none⟩) (by first | exact Kd.own_blk (Kd.R_away a1.out (fun _ hk => hk.2.1)) | (rw [add_block]; exact Kd.own_blk (Kd.R_away a1.out (fun _ hk => hk.2.1))) | (show (Addr.add _ _).block ≠ _; rw [add_block]; exact Kd.own_blk (Kd.R_away a1.out (fun _ hk => hk.2.1))) | (dsimp only; exact Kd.own_blk (Kd.R_away a1.out (fun _ hk => hk.2.1)))) _).trans (hHeld.2.2.1)))))))), ((cell_far (p := ⟨a5, _, none⟩) (by first | exact Kd.own_blk (Kd.R_away a1.out (fun _ hk => hk.2.1)) | (rw [add_block]; exact Kd.own_blk (Kd.R_away a1.out (fun _ hk => hk.2.1))) | (show (Addr.add _ _).block ≠ _; rw [add_block]; exact Kd.own_blk (Kd.R_away a1.out (fun _ hk => hk.2.1))) | (dsimp only; exact Kd.own_blk (Kd.R_away a1.out (fun _ hk => hk.2.1)))) _).trans (((cell_far (p := ⟨a5, _, none⟩) (by first | exact Kd.own_blk (Kd.R_away a1.out (fun _ hk => hk.2.1)) | (rw [add_block]; exact Kd.own_blk (Kd.R_away a1.out (fun _ hk => hk.2.1))) | (show (Addr.add _ _).block ≠ _; rw [add_block]; exact Kd.own_blk (Kd.R_away a1.out (fun _ hk => hk.2.1))) | (dsimp only; exact Kd.own_blk (Kd.R_away a1.out (fun _ hk => hk.2.1)))) _).trans (((cell_far (p := ⟨a5, _, none⟩) (by first | exact Kd.own_blk (Kd.R_away a1.out (fun _ hk => hk.2.1)) | (rw [add_block]; exact Kd.own_blk (Kd.R_away a1.out (fun _ hk => hk.2.1))) | (show (Addr.add _ _).block ≠ _; rw [add_block]; exact Kd.own_blk (Kd.R_away a1.out (fun _ hk => hk.2.1))) | (dsimp only; exact Kd.own_blk (Kd.R_away a1.out (fun _ hk => hk.2.1)))) _).trans (((cell_far (p := ⟨a5, _, none⟩) (by first | exact Kd.own_blk (Kd.R_away a1.out (fun _ hk => hk.2.1)) | (rw [add_block]; exact Kd.own_blk (Kd.R_away a1.out (fun _ hk => hk.2.1))) | (show (Addr.add _ _).block ≠ _; rw [add_block]; exact Kd.own_blk (Kd.R_away a1.out (fun _ hk => hk.2.1))) | (dsimp only; exact Kd.own_blk (Kd.R_away a1.out (fun _ hk => hk.2.1)))) _).trans (hHeld.2.2.2.1)))))))), ((cell_far (p := ⟨a5, _, none⟩) (by first | exact Kd.own_blk (Kd.R_away a3.out (fun _ hk => hk.2.1)) | (rw [add_block]; exact Kd.own_blk (Kd.R_away a3.out (fun _ hk => hk.2.1))) | (show (Addr.add _ _).block ≠ _; rw [add_block]; exact Kd.own_blk (Kd.R_away a3.out (fun _ hk => hk.2.1))) | (dsimp only; exact Kd.own_blk (Kd.R_away a3.out (fun _ hk => hk.2.1)))) _).trans (((cell_far (p := ⟨a5, _, none⟩) (by first | exact Kd.own_blk (Kd.R_away a3.out (fun _ hk => hk.2.1)) | (rw [add_block]; exact Kd.own_blk (Kd.R_away a3.out (fun _ hk => hk.2.1))) | (show (Addr.add _ _).block ≠ _; rw [add_block]; exact Kd.own_blk (Kd.R_away a3.out (fun _ hk => hk.2.1))) | (dsimp only; exact Kd.own_blk (Kd.R_away a3.out (fun _ hk => hk.2.1)))) _).trans (((cell_far (p := ⟨a5, _, none⟩) (by first | exact Kd.own_blk (Kd.R_away a3.out (fun _ hk => hk.2.1)) | (rw [add_block]; exact Kd.own_blk (Kd.R_away a3.out (fun _ hk => hk.2.1))) | (show (Addr.add _ _).block ≠ _; rw [add_block]; exact Kd.own_blk (Kd.R_away a3.out (fun _ hk => hk.2.1))) | (dsimp only; exact Kd.own_blk (Kd.R_away a3.out (fun _ hk => hk.2.1)))) _).trans (((cell_far (p := ⟨a5, _, none⟩) (by first | exact Kd.own_blk (Kd.R_away a3.out (fun _ hk => hk.2.1)) | (rw [add_block]; exact Kd.own_blk (Kd.R_away a3.out (fun _ hk => hk.2.1))) | (show (Addr.add _ _).block ≠ _; rw [add_block]; exact Kd.own_blk (Kd.R_away a3.out (fun _ hk => hk.2.1))) | (dsimp only; exact Kd.own_blk (Kd.R_away a3.out (fun _ hk => hk.2.1)))) _).trans (hHeld.2.2.2.2.1)))))))), ((cell_far (p := ⟨a5, _, none⟩) (by first | exact Kd.own_blk (Kd.R_away a3.out (fun _ hk => hk.2.1)) | (rw [add_block]; exact Kd.own_blk (Kd.R_away a3.out (fun _ hk => hk.2.1))) | (show (Addr.add _ _).block ≠ _; rw [add_block]; exact Kd.own_blk (Kd.R_away a3.out (fun _ hk => hk.2.1))) | (dsimp only; exact Kd.own_blk (Kd.R_away a3.out (fun _ hk => hk.2.1)))) _).trans (((cell_far (p := ⟨a5, _, none⟩) (by first | exact Kd.own_blk (Kd.R_away a3.out (fun _ hk => hk.2.1)) | (rw [add_block]; exact Kd.own_blk (Kd.R_away a3.out (fun _ hk => hk.2.1))) | (show (Addr.add _ _).block ≠ _; rw [add_block]; exact Kd.own_blk (Kd.R_away a3.out (fun _ hk => hk.2.1))) | (dsimp only; exact Kd.own_blk (Kd.R_away a3.out (fun _ hk => hk.2.1)))) _).trans (((cell_far (p := ⟨a5, _, none⟩) (by first | exact Kd.own_blk (Kd.R_away a3.out (fun _ hk => hk.2.1)) | (rw [add_block]; exact Kd.own_blk (Kd.R_away a3.out (fun _ hk => hk.2.1))) | (show (Addr.add _ _).block ≠ _; rw [add_block]; exact Kd.own_blk (Kd.R_away a3.out (fun _ hk => hk.2.1))) | (dsimp only; exact Kd.own_blk (Kd.R_away a3.out (fun _ hk => hk.2.1)))) _).trans (((cell_far (p := ⟨a5, _, none⟩) (by first | exact Kd.own_blk (Kd.R_away a3.out (fun _ hk => hk.2.1)) | (rw [add_block]; exact Kd.own_blk (Kd.R_away a3.out (fun _ hk => hk.2.1))) | (show (Addr.add _ _).block ≠ _; rw [add_block]; exact Kd.own_blk (Kd.R_away a3.out (fun _ hk => hk.2.1))) | (dsimp only; exact Kd.own_blk (Kd.R_away a3.out (fun _ hk => hk.2.1)))) _).trans (hHeld.2.2.2.2.2.1)))))))), ((cell_far (p := ⟨a5, _, none⟩) (by first | exact Kd.own_blk (Kd.R_away a3.out (fun _ hk => hk.2.1)) | (rw [add_block]; exact Kd.own_blk (Kd.R_away a3.out (fun _ hk => hk.2.1))) | (show (Addr.add _ _).block ≠ _; rw [add_block]; exact Kd.own_blk (Kd.R_away a3.out (fun _ hk => hk.2.1))) | (dsimp only; exact Kd.own_blk (Kd.R_away a3.out (fun _ hk => hk.2.1)))) _).trans (((cell_far (p := ⟨a5, _, none⟩) (by first | exact Kd.own_blk (Kd.R_away a3.out (fun _ hk => hk.2.1)) | (rw [add_block]; exact Kd.own_blk (Kd.R_away a3.out (fun _ hk => hk.2.1))) | (show (Addr.add _ _).block ≠ _; rw [add_block]; exact Kd.own_blk (Kd.R_away a3.out (fun _ hk => hk.2.1))) | (dsimp only; exact Kd.own_blk (Kd.R_away a3.out (fun _ hk => hk.2.1)))) _).trans (((cell_far (p := ⟨a5, _, none⟩) (by first | exact Kd.own_blk (Kd.R_away a3.out (fun _ hk => hk.2.1)) | (rw [add_block]; exact Kd.own_blk (Kd.R_away a3.out (fun _ hk => hk.2.1))) | (show (Addr.add _ _).block ≠ _; rw [add_block]; exact Kd.own_blk (Kd.R_away a3.out (fun _ hk => hk.2.1))) | (dsimp only; exact Kd.own_blk (Kd.R_away a3.out (fun _ hk => hk.2.1)))) _).trans (((cell_far (p := ⟨a5, _, none⟩) (by first | exact Kd.own_blk (Kd.R_away a3.out (fun _ hk => hk.2.1)) | (rw [add_block]; exact Kd.own_blk (Kd.R_away a3.out (fun _ hk => hk.2.1))) | (show (Addr.add _ _).block ≠ _; rw [add_block]; exact Kd.own_blk (Kd.R_away a3.out (fun _ hk => hk.2.1))) | (dsimp only; exact Kd.own_blk (Kd.R_away a3.out (fun _ hk => hk.2.1)))) _).trans (hHeld.2.2.2.2.2.2.1)))))))), ((cell_far (p := ⟨a5, _, none⟩) (by first | exact Kd.own_blk (Kd.R_away a3.out (fun _ hk => hk.2.1)) | (rw [add_block]; exact Kd.own_blk (Kd.R_away a3.out (fun _ hk => hk.2.1))) | (show (Addr.add _ _).block ≠ _; rw [add_block]; exact Kd.own_blk (Kd.R_away a3.out (fun _ hk => hk.2.1))) | (dsimp only; exact Kd.own_blk (Kd.R_away a3.out (fun _ hk => hk.2.1)))) _).trans (((cell_far (p := ⟨a5, _, none⟩) (by first | exact Kd.own_blk (Kd.R_away a3.out (fun _ hk => hk.2.1)) | (rw [add_block]; exact Kd.own_blk (Kd.R_away a3.out (fun _ hk => hk.2.1))) | (show (Addr.add _ _).block ≠ _; rw [add_block]; exact Kd.own_blk (Kd.R_away a3.out (fun _ hk => hk.2.1))) | (dsimp only; exact Kd.own_blk (Kd.R_away a3.out (fun _ hk => hk.2.1)))) _).trans (((cell_far (p := ⟨a5, _, none⟩) (by first | exact Kd.own_blk (Kd.R_away a3.out (fun _ hk => hk.2.1)) | (rw [add_block]; exact Kd.own_blk (Kd.R_away a3.out (fun _ hk => hk.2.1))) | (show (Addr.add _ _).block ≠ _; rw [add_block]; exact Kd.own_blk (Kd.R_away a3.out (fun _ hk => hk.2.1))) | (dsimp only; exact Kd.own_blk (Kd.R_away a3.out (fun _ hk => hk.2.1)))) _).trans (((cell_far (p := ⟨a5, _, none⟩) (by first | exact Kd.own_blk (Kd.R_away a3.out (fun _ hk => hk.2.1)) | (rw [add_block]; exact Kd.own_blk (Kd.R_away a3.out (fun _ hk => hk.2.1))) | (show (Addr.add _ _).block ≠ _; rw [add_block]; exact Kd.own_blk (Kd.R_away a3.out (fun _ hk => hk.2.1))) | (dsimp only; exact Kd.own_blk (Kd.R_away a3.out (fun _ hk => hk.2.1)))) _).trans (hHeld.2.2.2.2.2.2.2))))))))⟩ (fun hHeld => ?_)
                      clear hK K
                      refine one_ (i := 13) (N := none) (bs_ 14 16383) rfl rfl (one_of HT_.out (by kernel_rfl)) (by decide) (fun K hK => ?_)
                      have aq8 : p5.cell? ⟨a6, 0, none⟩ = some (.float .f64 0) := bc0_ b7
                      have ao1 := blk_frozen b7.out 0
                      have ab2 := a8.out; have ab3 := a9.out
                      have aq9 : p5.cell? ⟨a6, 1, none⟩ = some (.float .f64 0) := bc1_ b7
                      have ao2 := blk_frozen b7.out 1
                      have ab4 := a8.out; have ab5 := a9.out
                      have ar0 : p5.cell? ⟨a6, 2, none⟩ = some (.float .f64 0) := bc2_ b7
                      have ao3 := blk_frozen b7.out 2
                      have ab6 := a8.out; have ab7 := a9.out
                      have ar1 : p5.cell? ⟨a6, 3, none⟩ = some (.float .f64 0) := bc3_ b7
                      have ao4 := blk_frozen b7.out 3
                      have ab8 := a8.out; have ab9 := a9.out
                      refine skip_ (w1 := ?_) (by rfl) rfl ?_ ?_
                      rotate_left
                      ·go_simp
                       rfl
                      refine hK.out _ _ ⟨((cell_far (p := ⟨a6, _, none⟩) (by first | exact Kd.own_blk (Kd.R_away a1.out (fun _ hk => hk.2.2)) | (rw [add_block]; exact Kd.own_blk (Kd.R_away a1.out (fun _ hk => hk.2.2))) | (show (Addr.add _ _).block ≠ _; rw [add_block]; exact Kd.own_blk (Kd.R_away a1.out (fun _ hk => hk.2.2))) | (dsimp only; exact Kd.own_blk (Kd.R_away a1.out (fun _ hk => hk.2.2)))) _).trans (((cell_far (p := ⟨a6, _, none⟩) (by first | exact Kd.own_blk (Kd.R_away a1.out (fun _ hk => hk.2.2)) | (rw [add_block]; exact Kd.own_blk (Kd.R_away a1.out (fun _ hk => hk.2.2))) | (show (Addr.add _ _).block ≠ _; rw [add_block]; exact Kd.own_blk (Kd.R_away a1.out (fun _ hk => hk.2.2))) | (dsimp only; exact Kd.own_blk (Kd.R_away a1.out (fun _ hk => hk.2.2)))) _).trans (((cell_far (p := ⟨a6, _, none⟩) (by first | exact Kd.own_blk (Kd.R_away a1.out (fun _ hk => hk.2.2)) | (rw [add_block]; exact Kd.own_blk (Kd.R_away a1.out (fun _ hk => hk.2.2))) | (show (Addr.add _ _).block ≠ _; rw [add_block]; exact Kd.own_blk (Kd.R_away a1.out (fun _ hk => hk.2.2))) | (dsimp only; exact Kd.own_blk (Kd.R_away a1.out (fun _ hk => hk.2.2)))) _).trans (((cell_far (p := ⟨a6, _, none⟩) (by first | exact Kd.own_blk (Kd.R_away a1.out (fun _ hk => hk.2.2)) | (rw [add_block]; exact Kd.own_blk (Kd.R_away a1.out (fun _ hk => hk.2.2))) | (show (Addr.add _ _).block ≠ _; rw [add_block]; exact Kd.own_blk (Kd.R_away a1.out (fun _ hk => hk.2.2))) | (dsimp only; exact Kd.own_blk (Kd.R_away a1.out (fun _ hk => hk.2.2)))) _).trans (hHeld.1)))))))), ((cell_far (p := ⟨a6, _, none⟩) (by first | exact Kd.own_blk (Kd.R_away a1.out (fun _ hk => hk.2.2)) | (rw [add_block]; exact Kd.own_blk (Kd.R_away a1.out (fun _ hk => hk.2.2))) | (show (Addr.add _ _).block ≠ _; rw [add_block]; exact Kd.own_blk (Kd.R_away a1.out (fun _ hk => hk.2.2))) | (dsimp only; exact Kd.own_blk (Kd.R_away a1.out (fun _ hk => hk.2.2)))) _).trans (((cell_far (p := ⟨a6, _, none⟩) (by first | exact Kd.own_blk (Kd.R_away a1.out (fun _ hk => hk.2.2)) | (rw [add_block]; exact Kd.own_blk (Kd.R_away a1.out (fun _ hk => hk.2.2))) | (show (Addr.add _ _).block ≠ _; rw [add_block]; exact Kd.own_blk (Kd.R_away a1.out (fun _ hk => hk.2.2))) | (dsimp only; exact Kd.own_blk (Kd.R_away a1.out (fun _ hk => hk.2.2)))) _).trans (((cell_far (p := ⟨a6, _, none⟩) (by first | exact Kd.own_blk (Kd.R_away a1.out (fun _ hk => hk.2.2)) | (rw [add_block]; exact Kd.own_blk (Kd.R_away a1.out (fun _ hk => hk.2.2))) | (show (Addr.add _ _).block ≠ _; rw [add_block]; exact Kd.own_blk (Kd.R_away a1.out (fun _ hk => hk.2.2))) | (dsimp only; exact Kd.own_blk (Kd.R_away a1.out (fun _ hk => hk.2.2)))) _).trans (((cell_far (p := ⟨a6, _, none⟩) (by first | exact Kd.own_blk (Kd.R_away a1.out (fun _ hk => hk.2.2)) | (rw [add_block]; exact Kd.own_blk (Kd.R_away a1.out (fun _ hk => hk.2.2))) | (show (Addr.add _ _).block ≠ _; rw [add_block]; exact Kd.own_blk (Kd.R_away a1.out (fun _ hk => hk.2.2))) | (dsimp only; exact Kd.own_blk (Kd.R_away a1.out (fun _ hk => hk.2.2)))) _).trans (hHeld.2.1)))))))), ((cell_far (p := ⟨a6, _, none⟩) (by first | exact Kd.own_blk (Kd.R_away a1.out (fun _ hk => hk.2.2)) | (rw [add_block]; exact Kd.own_blk (Kd.R_away a1.out (fun _ hk => hk.2.2))) | (show (Addr.add _ _).block ≠ _; rw [add_block]; exact Kd.own_blk (Kd.R_away a1.out (fun _ hk => hk.2.2))) | (dsimp only; exact Kd.own_blk (Kd.R_away a1.out (fun _ hk => hk.2.2)))) _).trans (((cell_far (p := ⟨a6, _, none⟩) (by first | exact Kd.own_blk (Kd.R_away a1.out (fun _ hk => hk.2.2)) | (rw [add_block]; exact Kd.own_blk (Kd.R_away a1.out (fun _ hk => hk.2.2))) | (show (Addr.add _ _).block ≠ _; rw [add_block]; exact Kd.own_blk (Kd.R_away a1.out (fun _ hk => hk.2.2))) | (dsimp only; exact Kd.own_blk (Kd.R_away a1.out (fun _ hk => hk.2.2)))) _).trans (((cell_far (p := ⟨a6, _, none⟩) (by first | exact Kd.own_blk (Kd.R_away a1.out (fun _ hk => hk.2.2)) | (rw [add_block]; exact Kd.own_blk (Kd.R_away a1.out (fun _ hk => hk.2.2))) | (show (Addr.add _ _).block ≠ _; rw [add_block]; exact Kd.own_blk (Kd.R_away a1.out (fun _ hk => hk.2.2))) | (dsimp only; exact Kd.own_blk (Kd.R_away a1.out (fun _ hk => hk.2.2)))) _).trans (((cell_far (p := ⟨a6, _, none⟩) (by first | exact Kd.own_blk (Kd.R_away a1.out (fun _ hk => hk.2.2)) | (rw [add_block]; exact Kd.own_blk (Kd.R_away a1.out (fun _ hk => hk.2.2))) | (show (Addr.add _ _).block ≠ _; rw [add_block]; exact Kd.own_blk (Kd.R_away a1.out (fun _ hk => hk.2.2))) | (dsimp only; exact Kd.own_blk (Kd.R_away a1.out (fun _ hk => hk.2.2)))) _).trans (hHeld.2.2.1)))))))), ((cell_far (p := ⟨a6, _, none⟩) (by first | exact Kd.own_blk (Kd.R_away a1.out (fun _ hk => hk.2.2)) | (rw [add_block]; exact Kd.own_blk (Kd.R_away a1.out (fun _ hk => hk.2.2))) | (show (Addr.add _ _).block ≠ _; rw [add_block]; exact Kd.own_blk (Kd.R_away a1.out (fun _ hk => hk.2.2))) | (dsimp only; exact Kd.own_blk (Kd.R_away a1.out (fun _ hk => hk.2.2)))) _).trans (((cell_far (p := ⟨a6, _, none⟩) (by first | exact Kd.own_blk (Kd.R_away a1.out (fun _ hk => hk.2.2)) | (rw [add_block]; exact Kd.own_blk (Kd.R_away a1.out (fun _ hk => hk.2.2))) | (show (Addr.add _ _).block ≠ _; rw [add_block]; exact Kd.own_blk (Kd.R_away a1.out (fun _ hk => hk.2.2))) | (dsimp only; exact Kd.own_blk (Kd.R_away a1.out (fun _ hk => hk.2.2)))) _).trans (((cell_far (p := ⟨a6, _, none⟩) (by first | exact Kd.own_blk (Kd.R_away a1.out (fun _ hk => hk.2.2)) | (rw [add_block]; exact Kd.own_blk (Kd.R_away a1.out (fun _ hk => hk.2.2))) | (show (Addr.add _ _).block ≠ _; rw [add_block]; exact Kd.own_blk (Kd.R_away a1.out (fun _ hk => hk.2.2))) | (dsimp only; exact Kd.own_blk (Kd.R_away a1.out (fun _ hk => hk.2.2)))) _).trans (((cell_far (p := ⟨a6, _, none⟩) (by first | exact Kd.own_blk (Kd.R_away a1.out (fun _ hk => hk.2.2)) | (rw [add_block]; exact Kd.own_blk (Kd.R_away a1.out (fun _ hk => hk.2.2))) | (show (Addr.add _ _).block ≠ _; rw [add_block]; exact Kd.own_blk (Kd.R_away a1.out (fun _ hk => hk.2.2))) | (dsimp only; exact Kd.own_blk (Kd.R_away a1.out (fun _ hk => hk.2.2)))) _).trans (hHeld.2.2.2.1)))))))), ((cell_far (p := ⟨a6, _, none⟩) (by first | exact Kd.own_blk (Kd.R_away a3.out (fun _ hk => hk.2.2)) | (rw [add_block]; exact Kd.own_blk (Kd.R_away a3.out (fun _ hk => hk.2.2))) | (show (Addr.add _ _).block ≠ _; rw [add_block]; exact Kd.own_blk (Kd.R_away a3.out (fun _ hk => hk.2.2))) | (dsimp only; exact Kd.own_blk (Kd.R_away a3.out (fun _ hk => hk.2.2)))) _).trans (((cell_far (p := ⟨a6, _, none⟩) (by first | exact Kd.own_blk (Kd.R_away a3.out (fun _ hk => hk.2.2)) | (rw [add_block]; exact Kd.own_blk (Kd.R_away a3.out (fun _ hk => hk.2.2))) | (show (Addr.add _ _).block ≠ _; rw [add_block]; exact Kd.own_blk (Kd.R_away a3.out (fun _ hk => hk.2.2))) | (dsimp only; exact Kd.own_blk (Kd.R_away a3.out (fun _ hk => hk.2.2)))) _).trans (((cell_far (p := ⟨a6, _, none⟩) (by first | exact Kd.own_blk (Kd.R_away a3.out (fun _ hk => hk.2.2)) | (rw [add_block]; exact Kd.own_blk (Kd.R_away a3.out (fun _ hk => hk.2.2))) | (show (Addr.add _ _).block ≠ _; rw [add_block]; exact Kd.own_blk (Kd.R_away a3.out (fun _ hk => hk.2.2))) | (dsimp only; exact Kd.own_blk (Kd.R_away a3.out (fun _ hk => hk.2.2)))) _).trans (((cell_far (p := ⟨a6, _, none⟩) (by first | exact Kd.own_blk (Kd.R_away a3.out (fun _ hk => hk.2.2)) | (rw [add_block]; exact Kd.own_blk (Kd.R_away a3.out (fun _ hk => hk.2.2))) | (show (Addr.add _ _).block ≠ _; rw [add_block]; exact Kd.own_blk (Kd.R_away a3.out (fun _ hk => hk.2.2))) | (dsimp only; exact Kd.own_blk (Kd.R_away a3.out (fun _ hk => hk.2.2)))) _).trans (hHeld.2.2.2.2.1)))))))), ((cell_far (p := ⟨a6, _, none⟩) (by first | exact Kd.own_blk (Kd.R_away a3.out (fun _ hk => hk.2.2)) | (rw [add_block]; exact Kd.own_blk (Kd.R_away a3.out (fun _ hk => hk.2.2))) | (show (Addr.add _ _).block ≠ _; rw [add_block]; exact Kd.own_blk (Kd.R_away a3.out (fun _ hk => hk.2.2))) | (dsimp only; exact Kd.own_blk (Kd.R_away a3.out (fun _ hk => hk.2.2)))) _).trans (((cell_far (p := ⟨a6, _, none⟩) (by first | exact Kd.own_blk (Kd.R_away a3.out (fun _ hk => hk.2.2)) | (rw [add_block]; exact Kd.own_blk (Kd.R_away a3.out (fun _ hk => hk.2.2))) | (show (Addr.add _ _).block ≠ _; rw [add_block]; exact Kd.own_blk (Kd.R_away a3.out (fun _ hk => hk.2.2))) | (dsimp only; exact Kd.own_blk (Kd.R_away a3.out (fun _ hk => hk.2.2)))) _).trans (((cell_far (p := ⟨a6, _, none⟩) (by first | exact Kd.own_blk (Kd.R_away a3.out (fun _ hk => hk.2.2)) | (rw [add_block]; exact Kd.own_blk (Kd.R_away a3.out (fun _ hk => hk.2.2))) | (show (Addr.add _ _).block ≠ _; rw [add_block]; exact Kd.own_blk (Kd.R_away a3.out (fun _ hk => hk.2.2))) | (dsimp only; exact Kd.own_blk (Kd.R_away a3.out (fun _ hk => hk.2.2)))) _).trans (((cell_far (p := ⟨a6, _, none⟩) (by first | exact Kd.own_blk (Kd.R_away a3.out (fun _ hk => hk.2.2)) | (rw [add_block]; exact Kd.own_blk (Kd.R_away a3.out (fun _ hk => hk.2.2))) | (show (Addr.add _ _).block ≠ _; rw [add_block]; exact Kd.own_blk (Kd.R_away a3.out (fun _ hk => hk.2.2))) | (dsimp only; exact Kd.own_blk (Kd.R_away a3.out (fun _ hk => hk.2.2)))) _).trans (hHeld.2.2.2.2.2.1)))))))), ((cell_far (p := ⟨a6, _, none⟩) (by first | exact Kd.own_blk (Kd.R_away a3.out (fun _ hk => hk.2.2)) | (rw [add_block]; exact Kd.own_blk (Kd.R_away a3.out (fun _ hk => hk.2.2))) | (show (Addr.add _ _).block ≠ _; rw [add_block]; exact Kd.own_blk (Kd.R_away a3.out (fun _ hk => hk.2.2))) | (dsimp only; exact Kd.own_blk (Kd.R_away a3.out (fun _ hk => hk.2.2)))) _).trans (((cell_far (p := ⟨a6, _, none⟩) (by first | exact Kd.own_blk (Kd.R_away a3.out (fun _ hk => hk.2.2)) | (rw [add_block]; exact Kd.own_blk (Kd.R_away a3.out (fun _ hk => hk.2.2))) | (show (Addr.add _ _).block ≠ _; rw [add_block]; exact Kd.own_blk (Kd.R_away a3.out (fun _ hk => hk.2.2))) | (dsimp only; exact Kd.own_blk (Kd.R_away a3.out (fun _ hk => hk.2.2)))) _).trans (((cell_far (p := ⟨a6, _, none⟩) (by first | exact Kd.own_blk (Kd.R_away a3.out (fun _ hk => hk.2.2)) | (rw [add_block]; exact Kd.own_blk (Kd.R_away a3.out (fun _ hk => hk.2.2))) | (show (Addr.add _ _).block ≠ _; rw [add_block]; exact Kd.own_blk (Kd.R_away a3.out (fun _ hk => hk.2.2))) | (dsimp only; exact Kd.own_blk (Kd.R_away a3.out (fun _ hk => hk.2.2)))) _).trans (((cell_far (p := ⟨a6, _, none⟩) (by first | exact Kd.own_blk (Kd.R_away a3.out (fun _ hk => hk.2.2)) | (rw [add_block]; exact Kd.own_blk (Kd.R_away a3.out (fun _ hk => hk.2.2))) | (show (Addr.add _ _).block ≠ _; rw [add_block]; exact Kd.own_blk (Kd.R_away a3.out (fun _ hk => hk.2.2))) | (dsimp only; exact Kd.own_blk (Kd.R_away a3.out (fun _ hk => hk.2.2)))) _).trans (hHeld.2.2.2.2.2.2.1)))))))), ((cell_far (p := ⟨a6, _, none⟩) (by first | exact Kd.own_blk (Kd.R_away a3.out (fun _ hk => hk.2.2)) | (rw [add_block]; exact Kd.own_blk (Kd.R_away a3.out (fun _ hk => hk.2.2))) | (show (Addr.add _ _).block ≠ _; rw [add_block]; exact Kd.own_blk (Kd.R_away a3.out (fun _ hk => hk.2.2))) | (dsimp only; exact Kd.own_blk (Kd.R_away a3.out (fun _ hk => hk.2.2)))) _).trans (((cell_far (p := ⟨a6, _, none⟩) (by first | exact Kd.own_blk (Kd.R_away a3.out (fun _ hk => hk.2.2)) | (rw [add_block]; exact Kd.own_blk (Kd.R_away a3.out (fun _ hk => hk.2.2))) | (show (Addr.add _ _).block ≠ _; rw [add_block]; exact Kd.own_blk (Kd.R_away a3.out (fun _ hk => hk.2.2))) | (dsimp only; exact Kd.own_blk (Kd.R_away a3.out (fun _ hk => hk.2.2)))) _).trans (((cell_far (p := ⟨a6, _, none⟩) (by first | exact Kd.own_blk (Kd.R_away a3.out (fun _ hk => hk.2.2)) | (rw [add_block]; exact Kd.own_blk (Kd.R_away a3.out (fun _ hk => hk.2.2))) | (show (Addr.add _ _).block ≠ _; rw [add_block]; exact Kd.own_blk (Kd.R_away a3.out (fun _ hk => hk.2.2))) | (dsimp only; exact Kd.own_blk (Kd.R_away a3.out (fun _ hk => hk.2.2)))) _).trans (((cell_far (p := ⟨a6, _, none⟩) (by first | exact Kd.own_blk (Kd.R_away a3.out (fun _ hk => hk.2.2)) | (rw [add_block]; exact Kd.own_blk (Kd.R_away a3.out (fun _ hk => hk.2.2))) | (show (Addr.add _ _).block ≠ _; rw [add_block]; exact Kd.own_blk (Kd.R_away a3.out (fun _ hk => hk.2.2))) | (dsimp only; exact Kd.own_blk (Kd.R_away a3.out (fun _ hk => hk.2.2)))) _).trans (hHeld.2.2.2.2.2.2.2))))))))⟩ (fun hHeld => ?_)
                      clear hK K
                      refine done_ (done_of HT_.out (by kernel_rfl)) ?_
                      go_upto_region 17 with (fail)
                      go_cut [137] (fun v137 wc => ∃ (kq : Nat) (o7 : Bool), v137 = .bool o7 ∧ Aside0 (laws_FnFlown.j4 kq l0 a2 (b5) c5 a4 o7 = some r) ∧ Aside0 (kq ≤ k4) ∧ Aside0 (Kd.R k60 60 wc w.heap.size (fun k_ => some k_ ≠ ((.slice (some d1) c5.length D8) : Value).ownBlock ∧ k_ ≠ a5 ∧ k_ ≠ a6) (.slice (some c7) a2.length p0) a2) ∧ Aside0 (Kd.R k60 60 wc w.heap.size (fun k_ => some k_ ≠ ((.slice (some c7) a2.length p0) : Value).ownBlock ∧ k_ ≠ a5 ∧ k_ ≠ a6) (.slice (some d1) c5.length D8) c5) ∧ Aside0 (wc.heap[a5]? = some (.cells #[.float .f64 b_fr393_0, .float .f64 b_fr393_1, .float .f64 b_fr393_2, .float .f64 b_fr393_3] 60 (0, 0))) ∧ Aside0 (wc.heap[a6]? = some (.cells #[.float .f64 b_fr394_0, .float .f64 b_fr394_1, .float .f64 b_fr394_2, .float .f64 b_fr394_3] 60 (0, 0))) ∧ Aside0 (Below w.heap.size w wc))
                      case first =>
                       have H := H2.out; clear H2; replace H := Option.bind_eq_some_iff.mp H; obtain ⟨h7, L0, H⟩ := H; (try dsimp only at H); have A61 := mk_ L0; clear L0; by_cases c62 : h7 = true
                       ·subst c62; rw [if_pos rfl] at H
                        replace H := Option.bind_eq_some_iff.mp H; obtain ⟨h8, L1, H⟩ := H
                        (try dsimp only at H); have A63 := mk_ L1; clear L1
                        by_cases c64 : h8 = true
                        ·subst c64; rw [if_pos rfl] at H
                         replace H := Option.bind_eq_some_iff.mp H; obtain ⟨h9, L2, H⟩ := H
                         (try dsimp only at H); have A65 := mk_ L2; clear L2
                         by_cases c66 : h9 = true
                         ·subst c66; rw [if_pos rfl] at H
                          replace H := Option.bind_eq_some_iff.mp H; obtain ⟨h6, L3, H⟩ := H
                          (try dsimp only at H); have A67 := mk_ L3; clear L3
                          have H' := mk_ H
                          clear H; have ao5 := a8.out; have ao6 := a9.out; have ac0 := bc0_ b6; have ac1 := bc1_ b6; have ac2 := bc2_ b6; have ac3 := bc3_ b6; have ac4 := bf_ b6 0; have ac5 := bf_ b6 1; have ac6 := bf_ b6 2; have ac7 := bf_ b6 3; have ac8 := bc0_ b7; have ac9 := bc1_ b7; have ad0 := bc2_ b7; have ad1 := bc3_ b7; have ad2 := bf_ b7 0; have ad3 := bf_ b7 1; have ad4 := bf_ b7 2; have ad5 := bf_ b7 3
                          go_wp2_with (first | ((with_reducible refine gc_ 46 rfl ?_); refine gl_ (some 112) rfl Try.func46 #[.float .f64 b_fr393_0, .float .f64 b_fr394_0] ?_; (with_reducible refine (laws_sameBits.calls b_fr393_0 fr393_0 b_fr394_0 fr394_0 true _ ?c2 ?c4 A61.out).mono ?_); (case c2 => exact hF_fr393_0); (case c4 => exact hF_fr394_0); rintro e w' ⟨rfl, ⟨nd, rfl⟩⟩; refine ⟨_, rfl, ?_⟩) | (go_at_call 46; (with_reducible refine (laws_sameBits.calls b_fr393_1 fr393_1 b_fr394_1 fr394_1 true _ ?c2 ?c4 A63.out).mono ?_); (case c2 => exact hF_fr393_1); (case c4 => exact hF_fr394_1); rintro e w' ⟨rfl, ⟨nd, rfl⟩⟩) | (go_at_call 46; (with_reducible refine (laws_sameBits.calls b_fr393_2 fr393_2 b_fr394_2 fr394_2 true _ ?c2 ?c4 A65.out).mono ?_); (case c2 => exact hF_fr393_2); (case c4 => exact hF_fr394_2); rintro e w' ⟨rfl, ⟨nd, rfl⟩⟩) | (go_at_call 46; (with_reducible refine (laws_sameBits.calls b_fr393_3 fr393_3 b_fr394_3 fr394_3 h6 _ ?c2 ?c4 A67.out).mono ?_); (case c2 => exact hF_fr393_3); (case c4 => exact hF_fr394_3); rintro e w' ⟨rfl, ⟨nd, rfl⟩⟩))
                          go_meet
                          case rel => exact ⟨_, (!h6), rf_, H', ⟨by have := t7.out; have := m7.out; have := A3.out; have := H0.out; first | omega | exact Nat.le_refl _⟩, ⟨by (with_reducible repeat (first | apply Kd.R_alloc | apply Kd.R_drewN | apply Kd.R_drew)); exact Kd.R_mono (Kd.R_far (p := ⟨a6, 3, none⟩) (Kd.R_far (p := ⟨a6, 2, none⟩) (Kd.R_far (p := ⟨a6, 1, none⟩) (Kd.R_far (p := ⟨a6, 0, none⟩) (Kd.R_far (p := ⟨a5, 3, none⟩) (Kd.R_far (p := ⟨a5, 2, none⟩) (Kd.R_far (p := ⟨a5, 1, none⟩) (Kd.R_far (p := ⟨a5, 0, none⟩) (Kd.R_mono (Kd.R_mono a3.out (fun k_ hk => (⟨hk, hk.2.1⟩ : _ ∧ k_ ≠ a5))) (fun k_ hk => (⟨hk, hk.1.2.2⟩ : _ ∧ k_ ≠ a6))) (fun _ hk => hk.1.2) (.float .f64 b_fr393_0)) (fun _ hk => hk.1.2) (.float .f64 b_fr393_1)) (fun _ hk => hk.1.2) (.float .f64 b_fr393_2)) (fun _ hk => hk.1.2) (.float .f64 b_fr393_3)) (fun _ hk => hk.2) (.float .f64 b_fr394_0)) (fun _ hk => hk.2) (.float .f64 b_fr394_1)) (fun _ hk => hk.2) (.float .f64 b_fr394_2)) (fun _ hk => hk.2) (.float .f64 b_fr394_3)) (fun _ hk => ⟨hk.1.1.1, ⟨hk.1.1.2.1, hk.1.1.2.2⟩⟩)⟩, ⟨by (with_reducible repeat (first | apply Kd.R_alloc | apply Kd.R_drewN | apply Kd.R_drew)); exact Kd.R_mono (Kd.R_far (p := ⟨a6, 3, none⟩) (Kd.R_far (p := ⟨a6, 2, none⟩) (Kd.R_far (p := ⟨a6, 1, none⟩) (Kd.R_far (p := ⟨a6, 0, none⟩) (Kd.R_far (p := ⟨a5, 3, none⟩) (Kd.R_far (p := ⟨a5, 2, none⟩) (Kd.R_far (p := ⟨a5, 1, none⟩) (Kd.R_far (p := ⟨a5, 0, none⟩) (Kd.R_mono (Kd.R_mono a1.out (fun k_ hk => (⟨hk, hk.2.1⟩ : _ ∧ k_ ≠ a5))) (fun k_ hk => (⟨hk, hk.1.2.2⟩ : _ ∧ k_ ≠ a6))) (fun _ hk => hk.1.2) (.float .f64 b_fr393_0)) (fun _ hk => hk.1.2) (.float .f64 b_fr393_1)) (fun _ hk => hk.1.2) (.float .f64 b_fr393_2)) (fun _ hk => hk.1.2) (.float .f64 b_fr393_3)) (fun _ hk => hk.2) (.float .f64 b_fr394_0)) (fun _ hk => hk.2) (.float .f64 b_fr394_1)) (fun _ hk => hk.2) (.float .f64 b_fr394_2)) (fun _ hk => hk.2) (.float .f64 b_fr394_3)) (fun _ hk => ⟨hk.1.1.1, ⟨hk.1.1.2.1, hk.1.1.2.2⟩⟩)⟩, ⟨by (with_reducible repeat (first | refine blk_drewN ?_ _ | refine blk_drew ?_ | refine blk_alloc ?_ _)); refine blk_far ?_ a8.out _; (with_reducible repeat (first | refine blk_drewN ?_ _ | refine blk_drew ?_ | refine blk_alloc ?_ _)); refine blk_far ?_ a8.out _; (with_reducible repeat (first | refine blk_drewN ?_ _ | refine blk_drew ?_ | refine blk_alloc ?_ _)); refine blk_far ?_ a8.out _; (with_reducible repeat (first | refine blk_drewN ?_ _ | refine blk_drew ?_ | refine blk_alloc ?_ _)); refine blk_far ?_ a8.out _; (with_reducible repeat (first | refine blk_drewN ?_ _ | refine blk_drew ?_ | refine blk_alloc ?_ _)); refine blk_put (cs := #[.float .f64 b_fr393_0, .float .f64 b_fr393_1, .float .f64 b_fr393_2, .float .f64 0]) ?_ 3 _ rfl; (with_reducible repeat (first | refine blk_drewN ?_ _ | refine blk_drew ?_ | refine blk_alloc ?_ _)); refine blk_put (cs := #[.float .f64 b_fr393_0, .float .f64 b_fr393_1, .float .f64 0, .float .f64 0]) ?_ 2 _ rfl; (with_reducible repeat (first | refine blk_drewN ?_ _ | refine blk_drew ?_ | refine blk_alloc ?_ _)); refine blk_put (cs := #[.float .f64 b_fr393_0, .float .f64 0, .float .f64 0, .float .f64 0]) ?_ 1 _ rfl; (with_reducible repeat (first | refine blk_drewN ?_ _ | refine blk_drew ?_ | refine blk_alloc ?_ _)); refine blk_put (cs := #[.float .f64 0, .float .f64 0, .float .f64 0, .float .f64 0]) ?_ 0 _ rfl; (with_reducible repeat (first | refine blk_drewN ?_ _ | refine blk_drew ?_ | refine blk_alloc ?_ _)); exact b6.out⟩, ⟨by (with_reducible repeat (first | refine blk_drewN ?_ _ | refine blk_drew ?_ | refine blk_alloc ?_ _)); refine blk_put (cs := #[.float .f64 b_fr394_0, .float .f64 b_fr394_1, .float .f64 b_fr394_2, .float .f64 0]) ?_ 3 _ rfl; (with_reducible repeat (first | refine blk_drewN ?_ _ | refine blk_drew ?_ | refine blk_alloc ?_ _)); refine blk_put (cs := #[.float .f64 b_fr394_0, .float .f64 b_fr394_1, .float .f64 0, .float .f64 0]) ?_ 2 _ rfl; (with_reducible repeat (first | refine blk_drewN ?_ _ | refine blk_drew ?_ | refine blk_alloc ?_ _)); refine blk_put (cs := #[.float .f64 b_fr394_0, .float .f64 0, .float .f64 0, .float .f64 0]) ?_ 1 _ rfl; (with_reducible repeat (first | refine blk_drewN ?_ _ | refine blk_drew ?_ | refine blk_alloc ?_ _)); refine blk_put (cs := #[.float .f64 0, .float .f64 0, .float .f64 0, .float .f64 0]) ?_ 0 _ rfl; (with_reducible repeat (first | refine blk_drewN ?_ _ | refine blk_drew ?_ | refine blk_alloc ?_ _)); refine blk_far ?_ a9.out _; (with_reducible repeat (first | refine blk_drewN ?_ _ | refine blk_drew ?_ | refine blk_alloc ?_ _)); refine blk_far ?_ a9.out _; (with_reducible repeat (first | refine blk_drewN ?_ _ | refine blk_drew ?_ | refine blk_alloc ?_ _)); refine blk_far ?_ a9.out _; (with_reducible repeat (first | refine blk_drewN ?_ _ | refine blk_drew ?_ | refine blk_alloc ?_ _)); refine blk_far ?_ a9.out _; (with_reducible repeat (first | refine blk_drewN ?_ _ | refine blk_drew ?_ | refine blk_alloc ?_ _)); exact b7.out⟩, ⟨by repeat (first | (with_reducible first | exact HB.out | apply below_alloc | apply pw_below_drewN | apply below_drew1 | refine below_set ?_ n9.out | refine below_set ?_ o0.out) | exact HB.out)⟩⟩
                         ·replace c66 := Bool.eq_false_iff.mpr c66; subst c66; rw [if_neg (show ¬ (false = true) by decide)] at H
                          have H' := mk_ H
                          clear H; have ao7 := a8.out; have ao8 := a9.out; have ad6 := bc0_ b6; have ad7 := bc1_ b6; have ad8 := bc2_ b6; have ad9 := bc3_ b6; have ae0 := bf_ b6 0; have ae1 := bf_ b6 1; have ae2 := bf_ b6 2; have ae3 := bf_ b6 3; have ae4 := bc0_ b7; have ae5 := bc1_ b7; have ae6 := bc2_ b7; have ae7 := bc3_ b7; have ae8 := bf_ b7 0; have ae9 := bf_ b7 1; have af0 := bf_ b7 2; have af1 := bf_ b7 3
                          go_wp2_with (first | ((with_reducible refine gc_ 46 rfl ?_); refine gl_ (some 112) rfl Try.func46 #[.float .f64 b_fr393_0, .float .f64 b_fr394_0] ?_; (with_reducible refine (laws_sameBits.calls b_fr393_0 fr393_0 b_fr394_0 fr394_0 true _ ?c2 ?c4 A61.out).mono ?_); (case c2 => exact hF_fr393_0); (case c4 => exact hF_fr394_0); rintro e w' ⟨rfl, ⟨nd, rfl⟩⟩; refine ⟨_, rfl, ?_⟩) | (go_at_call 46; (with_reducible refine (laws_sameBits.calls b_fr393_1 fr393_1 b_fr394_1 fr394_1 true _ ?c2 ?c4 A63.out).mono ?_); (case c2 => exact hF_fr393_1); (case c4 => exact hF_fr394_1); rintro e w' ⟨rfl, ⟨nd, rfl⟩⟩) | (go_at_call 46; (with_reducible refine (laws_sameBits.calls b_fr393_2 fr393_2 b_fr394_2 fr394_2 false _ ?c2 ?c4 A65.out).mono ?_); (case c2 => exact hF_fr393_2); (case c4 => exact hF_fr394_2); rintro e w' ⟨rfl, ⟨nd, rfl⟩⟩))
                          go_meet
                          case rel => exact ⟨_, (true), rf_, H', ⟨by have := t7.out; have := m7.out; have := A3.out; have := H0.out; first | omega | exact Nat.le_refl _⟩, ⟨by (with_reducible repeat (first | apply Kd.R_alloc | apply Kd.R_drewN | apply Kd.R_drew)); exact Kd.R_mono (Kd.R_far (p := ⟨a6, 3, none⟩) (Kd.R_far (p := ⟨a6, 2, none⟩) (Kd.R_far (p := ⟨a6, 1, none⟩) (Kd.R_far (p := ⟨a6, 0, none⟩) (Kd.R_far (p := ⟨a5, 3, none⟩) (Kd.R_far (p := ⟨a5, 2, none⟩) (Kd.R_far (p := ⟨a5, 1, none⟩) (Kd.R_far (p := ⟨a5, 0, none⟩) (Kd.R_mono (Kd.R_mono a3.out (fun k_ hk => (⟨hk, hk.2.1⟩ : _ ∧ k_ ≠ a5))) (fun k_ hk => (⟨hk, hk.1.2.2⟩ : _ ∧ k_ ≠ a6))) (fun _ hk => hk.1.2) (.float .f64 b_fr393_0)) (fun _ hk => hk.1.2) (.float .f64 b_fr393_1)) (fun _ hk => hk.1.2) (.float .f64 b_fr393_2)) (fun _ hk => hk.1.2) (.float .f64 b_fr393_3)) (fun _ hk => hk.2) (.float .f64 b_fr394_0)) (fun _ hk => hk.2) (.float .f64 b_fr394_1)) (fun _ hk => hk.2) (.float .f64 b_fr394_2)) (fun _ hk => hk.2) (.float .f64 b_fr394_3)) (fun _ hk => ⟨hk.1.1.1, ⟨hk.1.1.2.1, hk.1.1.2.2⟩⟩)⟩, ⟨by (with_reducible repeat (first | apply Kd.R_alloc | apply Kd.R_drewN | apply Kd.R_drew)); exact Kd.R_mono (Kd.R_far (p := ⟨a6, 3, none⟩) (Kd.R_far (p := ⟨a6, 2, none⟩) (Kd.R_far (p := ⟨a6, 1, none⟩) (Kd.R_far (p := ⟨a6, 0, none⟩) (Kd.R_far (p := ⟨a5, 3, none⟩) (Kd.R_far (p := ⟨a5, 2, none⟩) (Kd.R_far (p := ⟨a5, 1, none⟩) (Kd.R_far (p := ⟨a5, 0, none⟩) (Kd.R_mono (Kd.R_mono a1.out (fun k_ hk => (⟨hk, hk.2.1⟩ : _ ∧ k_ ≠ a5))) (fun k_ hk => (⟨hk, hk.1.2.2⟩ : _ ∧ k_ ≠ a6))) (fun _ hk => hk.1.2) (.float .f64 b_fr393_0)) (fun _ hk => hk.1.2) (.float .f64 b_fr393_1)) (fun _ hk => hk.1.2) (.float .f64 b_fr393_2)) (fun _ hk => hk.1.2) (.float .f64 b_fr393_3)) (fun _ hk => hk.2) (.float .f64 b_fr394_0)) (fun _ hk => hk.2) (.float .f64 b_fr394_1)) (fun _ hk => hk.2) (.float .f64 b_fr394_2)) (fun _ hk => hk.2) (.float .f64 b_fr394_3)) (fun _ hk => ⟨hk.1.1.1, ⟨hk.1.1.2.1, hk.1.1.2.2⟩⟩)⟩, ⟨by (with_reducible repeat (first | refine blk_drewN ?_ _ | refine blk_drew ?_ | refine blk_alloc ?_ _)); refine blk_far ?_ a8.out _; (with_reducible repeat (first | refine blk_drewN ?_ _ | refine blk_drew ?_ | refine blk_alloc ?_ _)); refine blk_far ?_ a8.out _; (with_reducible repeat (first | refine blk_drewN ?_ _ | refine blk_drew ?_ | refine blk_alloc ?_ _)); refine blk_far ?_ a8.out _; (with_reducible repeat (first | refine blk_drewN ?_ _ | refine blk_drew ?_ | refine blk_alloc ?_ _)); refine blk_far ?_ a8.out _; (with_reducible repeat (first | refine blk_drewN ?_ _ | refine blk_drew ?_ | refine blk_alloc ?_ _)); refine blk_put (cs := #[.float .f64 b_fr393_0, .float .f64 b_fr393_1, .float .f64 b_fr393_2, .float .f64 0]) ?_ 3 _ rfl; (with_reducible repeat (first | refine blk_drewN ?_ _ | refine blk_drew ?_ | refine blk_alloc ?_ _)); refine blk_put (cs := #[.float .f64 b_fr393_0, .float .f64 b_fr393_1, .float .f64 0, .float .f64 0]) ?_ 2 _ rfl; (with_reducible repeat (first | refine blk_drewN ?_ _ | refine blk_drew ?_ | refine blk_alloc ?_ _)); refine blk_put (cs := #[.float .f64 b_fr393_0, .float .f64 0, .float .f64 0, .float .f64 0]) ?_ 1 _ rfl; (with_reducible repeat (first | refine blk_drewN ?_ _ | refine blk_drew ?_ | refine blk_alloc ?_ _)); refine blk_put (cs := #[.float .f64 0, .float .f64 0, .float .f64 0, .float .f64 0]) ?_ 0 _ rfl; (with_reducible repeat (first | refine blk_drewN ?_ _ | refine blk_drew ?_ | refine blk_alloc ?_ _)); exact b6.out⟩, ⟨by (with_reducible repeat (first | refine blk_drewN ?_ _ | refine blk_drew ?_ | refine blk_alloc ?_ _)); refine blk_put (cs := #[.float .f64 b_fr394_0, .float .f64 b_fr394_1, .float .f64 b_fr394_2, .float .f64 0]) ?_ 3 _ rfl; (with_reducible repeat (first | refine blk_drewN ?_ _ | refine blk_drew ?_ | refine blk_alloc ?_ _)); refine blk_put (cs := #[.float .f64 b_fr394_0, .float .f64 b_fr394_1, .float .f64 0, .float .f64 0]) ?_ 2 _ rfl; (with_reducible repeat (first | refine blk_drewN ?_ _ | refine blk_drew ?_ | refine blk_alloc ?_ _)); refine blk_put (cs := #[.float .f64 b_fr394_0, .float .f64 0, .float .f64 0, .float .f64 0]) ?_ 1 _ rfl; (with_reducible repeat (first | refine blk_drewN ?_ _ | refine blk_drew ?_ | refine blk_alloc ?_ _)); refine blk_put (cs := #[.float .f64 0, .float .f64 0, .float .f64 0, .float .f64 0]) ?_ 0 _ rfl; (with_reducible repeat (first | refine blk_drewN ?_ _ | refine blk_drew ?_ | refine blk_alloc ?_ _)); refine blk_far ?_ a9.out _; (with_reducible repeat (first | refine blk_drewN ?_ _ | refine blk_drew ?_ | refine blk_alloc ?_ _)); refine blk_far ?_ a9.out _; (with_reducible repeat (first | refine blk_drewN ?_ _ | refine blk_drew ?_ | refine blk_alloc ?_ _)); refine blk_far ?_ a9.out _; (with_reducible repeat (first | refine blk_drewN ?_ _ | refine blk_drew ?_ | refine blk_alloc ?_ _)); refine blk_far ?_ a9.out _; (with_reducible repeat (first | refine blk_drewN ?_ _ | refine blk_drew ?_ | refine blk_alloc ?_ _)); exact b7.out⟩, ⟨by repeat (first | (with_reducible first | exact HB.out | apply below_alloc | apply pw_below_drewN | apply below_drew1 | refine below_set ?_ n9.out | refine below_set ?_ o0.out) | exact HB.out)⟩⟩
                        ·replace c64 := Bool.eq_false_iff.mpr c64; subst c64; rw [if_neg (show ¬ (false = true) by decide)] at H
                         have H' := mk_ H
                         clear H; have ao9 := a8.out; have ap0 := a9.out; have af2 := bc0_ b6; have af3 := bc1_ b6; have af4 := bc2_ b6; have af5 := bc3_ b6; have af6 := bf_ b6 0; have af7 := bf_ b6 1; have af8 := bf_ b6 2; have af9 := bf_ b6 3; have ag0 := bc0_ b7; have ag1 := bc1_ b7; have ag2 := bc2_ b7; have ag3 := bc3_ b7; have ag4 := bf_ b7 0; have ag5 := bf_ b7 1; have ag6 := bf_ b7 2; have ag7 := bf_ b7 3
                         go_wp2_with (first | ((with_reducible refine gc_ 46 rfl ?_); refine gl_ (some 112) rfl Try.func46 #[.float .f64 b_fr393_0, .float .f64 b_fr394_0] ?_; (with_reducible refine (laws_sameBits.calls b_fr393_0 fr393_0 b_fr394_0 fr394_0 true _ ?c2 ?c4 A61.out).mono ?_); (case c2 => exact hF_fr393_0); (case c4 => exact hF_fr394_0); rintro e w' ⟨rfl, ⟨nd, rfl⟩⟩; refine ⟨_, rfl, ?_⟩) | (go_at_call 46; (with_reducible refine (laws_sameBits.calls b_fr393_1 fr393_1 b_fr394_1 fr394_1 false _ ?c2 ?c4 A63.out).mono ?_); (case c2 => exact hF_fr393_1); (case c4 => exact hF_fr394_1); rintro e w' ⟨rfl, ⟨nd, rfl⟩⟩))
                         go_meet
                         case rel => exact ⟨_, (true), rf_, H', ⟨by have := t7.out; have := m7.out; have := A3.out; have := H0.out; first | omega | exact Nat.le_refl _⟩, ⟨by (with_reducible repeat (first | apply Kd.R_alloc | apply Kd.R_drewN | apply Kd.R_drew)); exact Kd.R_mono (Kd.R_far (p := ⟨a6, 3, none⟩) (Kd.R_far (p := ⟨a6, 2, none⟩) (Kd.R_far (p := ⟨a6, 1, none⟩) (Kd.R_far (p := ⟨a6, 0, none⟩) (Kd.R_far (p := ⟨a5, 3, none⟩) (Kd.R_far (p := ⟨a5, 2, none⟩) (Kd.R_far (p := ⟨a5, 1, none⟩) (Kd.R_far (p := ⟨a5, 0, none⟩) (Kd.R_mono (Kd.R_mono a3.out (fun k_ hk => (⟨hk, hk.2.1⟩ : _ ∧ k_ ≠ a5))) (fun k_ hk => (⟨hk, hk.1.2.2⟩ : _ ∧ k_ ≠ a6))) (fun _ hk => hk.1.2) (.float .f64 b_fr393_0)) (fun _ hk => hk.1.2) (.float .f64 b_fr393_1)) (fun _ hk => hk.1.2) (.float .f64 b_fr393_2)) (fun _ hk => hk.1.2) (.float .f64 b_fr393_3)) (fun _ hk => hk.2) (.float .f64 b_fr394_0)) (fun _ hk => hk.2) (.float .f64 b_fr394_1)) (fun _ hk => hk.2) (.float .f64 b_fr394_2)) (fun _ hk => hk.2) (.float .f64 b_fr394_3)) (fun _ hk => ⟨hk.1.1.1, ⟨hk.1.1.2.1, hk.1.1.2.2⟩⟩)⟩, ⟨by (with_reducible repeat (first | apply Kd.R_alloc | apply Kd.R_drewN | apply Kd.R_drew)); exact Kd.R_mono (Kd.R_far (p := ⟨a6, 3, none⟩) (Kd.R_far (p := ⟨a6, 2, none⟩) (Kd.R_far (p := ⟨a6, 1, none⟩) (Kd.R_far (p := ⟨a6, 0, none⟩) (Kd.R_far (p := ⟨a5, 3, none⟩) (Kd.R_far (p := ⟨a5, 2, none⟩) (Kd.R_far (p := ⟨a5, 1, none⟩) (Kd.R_far (p := ⟨a5, 0, none⟩) (Kd.R_mono (Kd.R_mono a1.out (fun k_ hk => (⟨hk, hk.2.1⟩ : _ ∧ k_ ≠ a5))) (fun k_ hk => (⟨hk, hk.1.2.2⟩ : _ ∧ k_ ≠ a6))) (fun _ hk => hk.1.2) (.float .f64 b_fr393_0)) (fun _ hk => hk.1.2) (.float .f64 b_fr393_1)) (fun _ hk => hk.1.2) (.float .f64 b_fr393_2)) (fun _ hk => hk.1.2) (.float .f64 b_fr393_3)) (fun _ hk => hk.2) (.float .f64 b_fr394_0)) (fun _ hk => hk.2) (.float .f64 b_fr394_1)) (fun _ hk => hk.2) (.float .f64 b_fr394_2)) (fun _ hk => hk.2) (.float .f64 b_fr394_3)) (fun _ hk => ⟨hk.1.1.1, ⟨hk.1.1.2.1, hk.1.1.2.2⟩⟩)⟩, ⟨by (with_reducible repeat (first | refine blk_drewN ?_ _ | refine blk_drew ?_ | refine blk_alloc ?_ _)); refine blk_far ?_ a8.out _; (with_reducible repeat (first | refine blk_drewN ?_ _ | refine blk_drew ?_ | refine blk_alloc ?_ _)); refine blk_far ?_ a8.out _; (with_reducible repeat (first | refine blk_drewN ?_ _ | refine blk_drew ?_ | refine blk_alloc ?_ _)); refine blk_far ?_ a8.out _; (with_reducible repeat (first | refine blk_drewN ?_ _ | refine blk_drew ?_ | refine blk_alloc ?_ _)); refine blk_far ?_ a8.out _; (with_reducible repeat (first | refine blk_drewN ?_ _ | refine blk_drew ?_ | refine blk_alloc ?_ _)); refine blk_put (cs := #[.float .f64 b_fr393_0, .float .f64 b_fr393_1, .float .f64 b_fr393_2, .float .f64 0]) ?_ 3 _ rfl; (with_reducible repeat (first | refine blk_drewN ?_ _ | refine blk_drew ?_ | refine blk_alloc ?_ _)); refine blk_put (cs := #[.float .f64 b_fr393_0, .float .f64 b_fr393_1, .float .f64 0, .float .f64 0]) ?_ 2 _ rfl; (with_reducible repeat (first | refine blk_drewN ?_ _ | refine blk_drew ?_ | refine blk_alloc ?_ _)); refine blk_put (cs := #[.float .f64 b_fr393_0, .float .f64 0, .float .f64 0, .float .f64 0]) ?_ 1 _ rfl; (with_reducible repeat (first | refine blk_drewN ?_ _ | refine blk_drew ?_ | refine blk_alloc ?_ _)); refine blk_put (cs := #[.float .f64 0, .float .f64 0, .float .f64 0, .float .f64 0]) ?_ 0 _ rfl; (with_reducible repeat (first | refine blk_drewN ?_ _ | refine blk_drew ?_ | refine blk_alloc ?_ _)); exact b6.out⟩, ⟨by (with_reducible repeat (first | refine blk_drewN ?_ _ | refine blk_drew ?_ | refine blk_alloc ?_ _)); refine blk_put (cs := #[.float .f64 b_fr394_0, .float .f64 b_fr394_1, .float .f64 b_fr394_2, .float .f64 0]) ?_ 3 _ rfl; (with_reducible repeat (first | refine blk_drewN ?_ _ | refine blk_drew ?_ | refine blk_alloc ?_ _)); refine blk_put (cs := #[.float .f64 b_fr394_0, .float .f64 b_fr394_1, .float .f64 0, .float .f64 0]) ?_ 2 _ rfl; (with_reducible repeat (first | refine blk_drewN ?_ _ | refine blk_drew ?_ | refine blk_alloc ?_ _)); refine blk_put (cs := #[.float .f64 b_fr394_0, .float .f64 0, .float .f64 0, .float .f64 0]) ?_ 1 _ rfl; (with_reducible repeat (first | refine blk_drewN ?_ _ | refine blk_drew ?_ | refine blk_alloc ?_ _)); refine blk_put (cs := #[.float .f64 0, .float .f64 0, .float .f64 0, .float .f64 0]) ?_ 0 _ rfl; (with_reducible repeat (first | refine blk_drewN ?_ _ | refine blk_drew ?_ | refine blk_alloc ?_ _)); refine blk_far ?_ a9.out _; (with_reducible repeat (first | refine blk_drewN ?_ _ | refine blk_drew ?_ | refine blk_alloc ?_ _)); refine blk_far ?_ a9.out _; (with_reducible repeat (first | refine blk_drewN ?_ _ | refine blk_drew ?_ | refine blk_alloc ?_ _)); refine blk_far ?_ a9.out _; (with_reducible repeat (first | refine blk_drewN ?_ _ | refine blk_drew ?_ | refine blk_alloc ?_ _)); refine blk_far ?_ a9.out _; (with_reducible repeat (first | refine blk_drewN ?_ _ | refine blk_drew ?_ | refine blk_alloc ?_ _)); exact b7.out⟩, ⟨by repeat (first | (with_reducible first | exact HB.out | apply below_alloc | apply pw_below_drewN | apply below_drew1 | refine below_set ?_ n9.out | refine below_set ?_ o0.out) | exact HB.out)⟩⟩
                       ·replace c62 := Bool.eq_false_iff.mpr c62; subst c62; rw [if_neg (show ¬ (false = true) by decide)] at H
                        have H' := mk_ H
                        clear H; have ap1 := a8.out; have ap2 := a9.out; have ag8 := bc0_ b6; have ag9 := bc1_ b6; have ah0 := bc2_ b6; have ah1 := bc3_ b6; have ah2 := bf_ b6 0; have ah3 := bf_ b6 1; have ah4 := bf_ b6 2; have ah5 := bf_ b6 3; have ah6 := bc0_ b7; have ah7 := bc1_ b7; have ah8 := bc2_ b7; have ah9 := bc3_ b7; have ai0 := bf_ b7 0; have ai1 := bf_ b7 1; have ai2 := bf_ b7 2; have ai3 := bf_ b7 3
                        go_wp2_with (first | ((with_reducible refine gc_ 46 rfl ?_); refine gl_ (some 112) rfl Try.func46 #[.float .f64 b_fr393_0, .float .f64 b_fr394_0] ?_; (with_reducible refine (laws_sameBits.calls b_fr393_0 fr393_0 b_fr394_0 fr394_0 false _ ?c2 ?c4 A61.out).mono ?_); (case c2 => exact hF_fr393_0); (case c4 => exact hF_fr394_0); rintro e w' ⟨rfl, ⟨nd, rfl⟩⟩; refine ⟨_, rfl, ?_⟩))
                        go_meet
                        case rel => exact ⟨_, (true), rf_, H', ⟨by have := t7.out; have := m7.out; have := A3.out; have := H0.out; first | omega | exact Nat.le_refl _⟩, ⟨by (with_reducible repeat (first | apply Kd.R_alloc | apply Kd.R_drewN | apply Kd.R_drew)); exact Kd.R_mono (Kd.R_far (p := ⟨a6, 3, none⟩) (Kd.R_far (p := ⟨a6, 2, none⟩) (Kd.R_far (p := ⟨a6, 1, none⟩) (Kd.R_far (p := ⟨a6, 0, none⟩) (Kd.R_far (p := ⟨a5, 3, none⟩) (Kd.R_far (p := ⟨a5, 2, none⟩) (Kd.R_far (p := ⟨a5, 1, none⟩) (Kd.R_far (p := ⟨a5, 0, none⟩) (Kd.R_mono (Kd.R_mono a3.out (fun k_ hk => (⟨hk, hk.2.1⟩ : _ ∧ k_ ≠ a5))) (fun k_ hk => (⟨hk, hk.1.2.2⟩ : _ ∧ k_ ≠ a6))) (fun _ hk => hk.1.2) (.float .f64 b_fr393_0)) (fun _ hk => hk.1.2) (.float .f64 b_fr393_1)) (fun _ hk => hk.1.2) (.float .f64 b_fr393_2)) (fun _ hk => hk.1.2) (.float .f64 b_fr393_3)) (fun _ hk => hk.2) (.float .f64 b_fr394_0)) (fun _ hk => hk.2) (.float .f64 b_fr394_1)) (fun _ hk => hk.2) (.float .f64 b_fr394_2)) (fun _ hk => hk.2) (.float .f64 b_fr394_3)) (fun _ hk => ⟨hk.1.1.1, ⟨hk.1.1.2.1, hk.1.1.2.2⟩⟩)⟩, ⟨by (with_reducible repeat (first | apply Kd.R_alloc | apply Kd.R_drewN | apply Kd.R_drew)); exact Kd.R_mono (Kd.R_far (p := ⟨a6, 3, none⟩) (Kd.R_far (p := ⟨a6, 2, none⟩) (Kd.R_far (p := ⟨a6, 1, none⟩) (Kd.R_far (p := ⟨a6, 0, none⟩) (Kd.R_far (p := ⟨a5, 3, none⟩) (Kd.R_far (p := ⟨a5, 2, none⟩) (Kd.R_far (p := ⟨a5, 1, none⟩) (Kd.R_far (p := ⟨a5, 0, none⟩) (Kd.R_mono (Kd.R_mono a1.out (fun k_ hk => (⟨hk, hk.2.1⟩ : _ ∧ k_ ≠ a5))) (fun k_ hk => (⟨hk, hk.1.2.2⟩ : _ ∧ k_ ≠ a6))) (fun _ hk => hk.1.2) (.float .f64 b_fr393_0)) (fun _ hk => hk.1.2) (.float .f64 b_fr393_1)) (fun _ hk => hk.1.2) (.float .f64 b_fr393_2)) (fun _ hk => hk.1.2) (.float .f64 b_fr393_3)) (fun _ hk => hk.2) (.float .f64 b_fr394_0)) (fun _ hk => hk.2) (.float .f64 b_fr394_1)) (fun _ hk => hk.2) (.float .f64 b_fr394_2)) (fun _ hk => hk.2) (.float .f64 b_fr394_3)) (fun _ hk => ⟨hk.1.1.1, ⟨hk.1.1.2.1, hk.1.1.2.2⟩⟩)⟩, ⟨by (with_reducible repeat (first | refine blk_drewN ?_ _ | refine blk_drew ?_ | refine blk_alloc ?_ _)); refine blk_far ?_ a8.out _; (with_reducible repeat (first | refine blk_drewN ?_ _ | refine blk_drew ?_ | refine blk_alloc ?_ _)); refine blk_far ?_ a8.out _; (with_reducible repeat (first | refine blk_drewN ?_ _ | refine blk_drew ?_ | refine blk_alloc ?_ _)); refine blk_far ?_ a8.out _; (with_reducible repeat (first | refine blk_drewN ?_ _ | refine blk_drew ?_ | refine blk_alloc ?_ _)); refine blk_far ?_ a8.out _; (with_reducible repeat (first | refine blk_drewN ?_ _ | refine blk_drew ?_ | refine blk_alloc ?_ _)); refine blk_put (cs := #[.float .f64 b_fr393_0, .float .f64 b_fr393_1, .float .f64 b_fr393_2, .float .f64 0]) ?_ 3 _ rfl; (with_reducible repeat (first | refine blk_drewN ?_ _ | refine blk_drew ?_ | refine blk_alloc ?_ _)); refine blk_put (cs := #[.float .f64 b_fr393_0, .float .f64 b_fr393_1, .float .f64 0, .float .f64 0]) ?_ 2 _ rfl; (with_reducible repeat (first | refine blk_drewN ?_ _ | refine blk_drew ?_ | refine blk_alloc ?_ _)); refine blk_put (cs := #[.float .f64 b_fr393_0, .float .f64 0, .float .f64 0, .float .f64 0]) ?_ 1 _ rfl; (with_reducible repeat (first | refine blk_drewN ?_ _ | refine blk_drew ?_ | refine blk_alloc ?_ _)); refine blk_put (cs := #[.float .f64 0, .float .f64 0, .float .f64 0, .float .f64 0]) ?_ 0 _ rfl; (with_reducible repeat (first | refine blk_drewN ?_ _ | refine blk_drew ?_ | refine blk_alloc ?_ _)); exact b6.out⟩, ⟨by (with_reducible repeat (first | refine blk_drewN ?_ _ | refine blk_drew ?_ | refine blk_alloc ?_ _)); refine blk_put (cs := #[.float .f64 b_fr394_0, .float .f64 b_fr394_1, .float .f64 b_fr394_2, .float .f64 0]) ?_ 3 _ rfl; (with_reducible repeat (first | refine blk_drewN ?_ _ | refine blk_drew ?_ | refine blk_alloc ?_ _)); refine blk_put (cs := #[.float .f64 b_fr394_0, .float .f64 b_fr394_1, .float .f64 0, .float .f64 0]) ?_ 2 _ rfl; (with_reducible repeat (first | refine blk_drewN ?_ _ | refine blk_drew ?_ | refine blk_alloc ?_ _)); refine blk_put (cs := #[.float .f64 b_fr394_0, .float .f64 0, .float .f64 0, .float .f64 0]) ?_ 1 _ rfl; (with_reducible repeat (first | refine blk_drewN ?_ _ | refine blk_drew ?_ | refine blk_alloc ?_ _)); refine blk_put (cs := #[.float .f64 0, .float .f64 0, .float .f64 0, .float .f64 0]) ?_ 0 _ rfl; (with_reducible repeat (first | refine blk_drewN ?_ _ | refine blk_drew ?_ | refine blk_alloc ?_ _)); refine blk_far ?_ a9.out _; (with_reducible repeat (first | refine blk_drewN ?_ _ | refine blk_drew ?_ | refine blk_alloc ?_ _)); refine blk_far ?_ a9.out _; (with_reducible repeat (first | refine blk_drewN ?_ _ | refine blk_drew ?_ | refine blk_alloc ?_ _)); refine blk_far ?_ a9.out _; (with_reducible repeat (first | refine blk_drewN ?_ _ | refine blk_drew ?_ | refine blk_alloc ?_ _)); refine blk_far ?_ a9.out _; (with_reducible repeat (first | refine blk_drewN ?_ _ | refine blk_drew ?_ | refine blk_alloc ?_ _)); exact b7.out⟩, ⟨by repeat (first | (with_reducible first | exact HB.out | apply below_alloc | apply pw_below_drewN | apply below_drew1 | refine below_set ?_ n9.out | refine below_set ?_ o0.out) | exact HB.out)⟩⟩
                      case rest =>
                       clear H2; (try clear H1); (try clear F6); (try clear J3); (try clear J4); (try clear J5); (try clear J6); (try clear J7)
                       obtain ⟨kq, o7, rfl, HA, L4, a3, a1, b6, b7, HB⟩ := hcut
                       cases kq with
                       | zero => exact absurd HA.out (by simp [laws_FnFlown.j4])
                       | succ kj46 =>
                        have H := HA.out; clear HA
                        simp only [laws_FnFlown.j4] at H
                        by_cases c80 : o7 = true
                        ·subst c80; rw [if_pos rfl] at H
                         obtain rfl := Option.some.inj H; go_wp2
                         go_ret
                         exact ⟨by first | rfl | (simp [errW_none, errW_some] <;> rfl) | (simp only [← p1, ← m8, ← t5]; first | rfl | (simp [errW_none, errW_some] <;> rfl)) | (simp [*, errW_none, errW_some] <;> rfl), hw_ HB⟩
                        ·replace c80 := Bool.eq_false_iff.mpr c80; subst c80; rw [if_neg (show ¬ (false = true) by decide)] at H
                         have H' := mk_ H
                         clear H; go_wp2
                         go_roundg kj46
                         case measure => have := t7.out; have := m7.out; have := A3.out; have := H0.out; have := L4.out; omega
                         case rel => exact ⟨(wrap64 (a4 + 1)), rf_, H', ⟨by have := t7.out; have := m7.out; have := A3.out; have := H0.out; have := L4.out; omega⟩, km_ a3 (fun _ hk => hk.1), km_ a1 (fun _ hk => hk.1), ⟨hw_ HB⟩⟩
                     ·rw [if_neg J7] at H
                      exact absurd H (by simp)
                    ·rw [if_neg J5] at H
                     exact absurd H (by simp)
                   ·rw [if_neg J3] at H
                    exact absurd H (by simp)
                  ·rw [if_neg H1] at H; have F6 : decide (a4 < (c5.length : Int)) = false := decide_eq_false H1; clear H1
                   have H' := mk_ H
                   clear H; obtain ⟨ar2, ar3, am2⟩ := Kd.R_slice a1.out; subst am2; go_wp2
                   (try subst m8)
                   go_meet
                   case rel => exact ⟨_, H', ⟨by have := t7.out; have := m7.out; have := A3.out; have := H0.out; first | omega | exact Nat.le_refl _⟩, ⟨hw_ HB⟩⟩
            ·rw [if_neg G6] at H
             exact absurd H (by simp)
           ·rw [if_neg G5] at H
            exact absurd H (by simp)
          ·rw [if_neg I1] at H
           exact absurd H (by simp)
         ·rw [if_neg I0] at H
          exact absurd H (by simp)
        ·replace H9 := Bool.eq_false_iff.mpr H9; subst H9; rw [if_neg (show ¬ (false = true) by decide)] at H
         have H' := mk_ H
         clear H; go_wp2; go_meet
         case rel => exact ⟨_, H', ⟨by have := t7.out; have := m7.out; first | omega | exact Nat.le_refl _⟩, ⟨hw_ HB⟩⟩
       case rest => as_aux_lemma =>
        clear G4; (try clear c3)
        obtain ⟨kq, HA, E7, HB⟩ := hcut
        cases kq with
        | zero => exact absurd HA.out (by simp [laws_FnFlown.j5])
        | succ kj25 =>
         have H := HA.out; clear HA
         simp only [laws_FnFlown.j5] at H
         replace H := Option.bind_eq_some_iff.mp H; obtain ⟨D9, L5, H⟩ := H
         (try dsimp only at H); have A82 := mk_ L5; clear L5
         obtain ⟨ft402, hft402⟩ : ∃ y_ : Fl, y_ = (fint .f64 D9) := ⟨_, rfl⟩
         replace H : ((laws_at.f l0 2).bind fun t8 => ((some (fint .f64 t8 : Fl)).bind fun ft404 => ((impl_StepOnce.f ft402 ft404 (cn .f64 0) (cn .f64 0) (cn .f64 0) (cn .f64 0) (cn .f64 0) (cn .f64 0) (cn .f64 0) (cn .f64 0) (cn .f64 4602678819172646912)).bind fun d2 => ((impl_Load5.f kj25 ft402 ft404 (cn .f64 0) (cn .f64 0) (cn .f64 0) (cn .f64 0) (cn .f64 4607182418800017408) (cn .f64 0) (cn .f64 4607182418800017408)).bind fun n8 => (if (fcmp .eql .f64 d2.1 ft402 && (fcmp .eql .f64 d2.2.1 ft404 && (fcmp .eql .f64 d2.2.2.1 (cn .f64 0) && (fcmp .eql .f64 d2.2.2.2 (cn .f64 0))))) = true then ((impl_Near5.f kj25 d2.1 d2.2.1 d2.2.2.1 d2.2.2.2 ft402 ft404 (cn .f64 0) (cn .f64 0) (cn .f64 0)).bind fun t9 => (if t9 = true then (if n8.2 = true then (laws_FnFlown.j6 kj25 (fcmp .eql .f64 n8.1 (fop .mul .f64 ft402 ft402))) else (laws_FnFlown.j6 kj25 false)) else (laws_FnFlown.j6 kj25 false))) else (laws_FnFlown.j6 kj25 false)))))) = some r := by first | (rw [hft402]; with_reducible exact H) | (have H2_ := (Option.bind_some _ _).symm.trans H; rw [hft402]; with_reducible exact H2_) | (have H2_ := (Option.bind_some _ _).symm.trans H; with_reducible exact H2_) | with_reducible exact H | (rw [hft402]; exact H) | exact H
         have Nft402 := mk_ hft402; clear hft402; replace H := Option.bind_eq_some_iff.mp H; obtain ⟨t8, L6, H⟩ := H; (try dsimp only at H); have A83 := mk_ L6; clear L6
         obtain ⟨ft404, hft404⟩ : ∃ y_ : Fl, y_ = (fint .f64 t8) := ⟨_, rfl⟩
         replace H : ((impl_StepOnce.f ft402 ft404 (cn .f64 0) (cn .f64 0) (cn .f64 0) (cn .f64 0) (cn .f64 0) (cn .f64 0) (cn .f64 0) (cn .f64 0) (cn .f64 4602678819172646912)).bind fun d2 => ((impl_Load5.f kj25 ft402 ft404 (cn .f64 0) (cn .f64 0) (cn .f64 0) (cn .f64 0) (cn .f64 4607182418800017408) (cn .f64 0) (cn .f64 4607182418800017408)).bind fun n8 => (if (fcmp .eql .f64 d2.1 ft402 && (fcmp .eql .f64 d2.2.1 ft404 && (fcmp .eql .f64 d2.2.2.1 (cn .f64 0) && (fcmp .eql .f64 d2.2.2.2 (cn .f64 0))))) = true then ((impl_Near5.f kj25 d2.1 d2.2.1 d2.2.2.1 d2.2.2.2 ft402 ft404 (cn .f64 0) (cn .f64 0) (cn .f64 0)).bind fun t9 => (if t9 = true then (if n8.2 = true then (laws_FnFlown.j6 kj25 (fcmp .eql .f64 n8.1 (fop .mul .f64 ft402 ft402))) else (laws_FnFlown.j6 kj25 false)) else (laws_FnFlown.j6 kj25 false))) else (laws_FnFlown.j6 kj25 false)))) = some r := by first | (rw [hft404]; with_reducible exact H) | (have H2_ := (Option.bind_some _ _).symm.trans H; rw [hft404]; with_reducible exact H2_) | (have H2_ := (Option.bind_some _ _).symm.trans H; with_reducible exact H2_) | with_reducible exact H | (rw [hft404]; exact H) | exact H
         have Nft404 := mk_ hft404; clear hft404; replace H := Option.bind_eq_some_iff.mp H; obtain ⟨⟨B2, B3, B4, B5⟩, L7, H⟩ := H; (try dsimp only at H); have A84 := mk_ L7; clear L7; replace H := Option.bind_eq_some_iff.mp H; obtain ⟨⟨H7, L8⟩, L9, H⟩ := H; (try dsimp only at H); have A85 := mk_ L9; clear L9; have H8 := mk_ H; clear H
         go_upto_region 22 with (first | ((with_reducible refine gc_ 24 rfl ?_); refine gl_ (some 139) rfl Try.func24 #[.slice A0 l0.length c0, .int .i64 1] ?_; (with_reducible refine (laws_at.calls _ _ l0 1 D9 _ ?c2 ?c4 A82.out).mono ?_); (case c2 => exact cw_ (Kd.C_below I3.out HB.out)); (case c4 => exact I4.out); rintro e w' ⟨rfl, ⟨nd, rfl⟩⟩; refine ⟨_, rfl, ?_⟩; (try (rw [drewN_self wc]; generalize hq_ : World.drewN wc _ = wc; have M0 := qH_ hq_ HB; clear HB hq_; have HB := M0; clear M0))) | ((with_reducible refine gd_ 140 rfl ?_); (try (refine gate_guard (by rfl) ?_; dsimp only)); refine fint_event rfl (N := 140) rfl rfl .f64 .i64 D9 Try.underlying3 Try.underlying36 rfl ?_; intro b_ft402 nf_ hF_; replace hF_ := hF_.trans Nft402.out.symm; have hF_ft402 := hF_; clear hF_) | ((with_reducible refine gc_ 24 rfl ?_); refine gl_ (some 142) rfl Try.func24 #[.slice A0 l0.length c0, .int .i64 2] ?_; (with_reducible refine (laws_at.calls _ _ l0 2 t8 _ ?c2 ?c4 A83.out).mono ?_); (case c2 => repeat (first | exact (Kd.C_below I3.out (hw_ HB)) | (with_reducible refine Kd.C_alloc ?_ _) | (with_reducible refine Kd.C_drewN ?_ _) | (with_reducible refine Kd.C_drew ?_))); (case c4 => exact I4.out); rintro e w' ⟨rfl, ⟨nd, rfl⟩⟩; refine ⟨_, rfl, ?_⟩; (try (rw [drewN_self wc]; generalize hq_ : World.drewN wc _ = wc; have M0 := qH_ hq_ HB; clear HB hq_; have HB := M0; clear M0))) | ((with_reducible refine gd_ 143 rfl ?_); (try (refine gate_guard (by rfl) ?_; dsimp only)); refine fint_event rfl (N := 143) rfl rfl .f64 .i64 t8 Try.underlying3 Try.underlying36 rfl ?_; intro b_ft404 nf_ hF_; replace hF_ := hF_.trans Nft404.out.symm; have hF_ft404 := hF_; clear hF_) | ((with_reducible refine gd_ 17 rfl ?_); (try (refine gate_guard (by rfl) ?_; dsimp only)); refine box_event ?hg (N := 17) ?hd (cs := #[.float .f64 0, .float .f64 0, .float .f64 0, .float .f64 0]) (t := 60) ?hr ?_; (case hd => rfl); (case hg => rfl); (case hr => exact hr_); intro E4 hg w87 hbox hb; have b4 := mk_ (hbox); have M1 := gk_ hg HB; replace HB := hk_ HB hb; have M2 := M1; clear hb hbox hg; have ai4 := bc0_ b4; have ai5 := bc1_ b4; have ai6 := bc2_ b4; have ai7 := bc3_ b4; have ai8 := bf_ b4 0; have ai9 := bf_ b4 1; have aj0 := bf_ b4 2; have aj1 := bf_ b4 3) | ((with_reducible refine gc_ 47 rfl ?_); refine gl_ (some 147) rfl Try.func47 #[.agg #[.float .f64 b_ft402, .float .f64 b_ft404, .float .f64 0, .float .f64 0], .agg #[.float .f64 0, .float .f64 0, .float .f64 0, .float .f64 0, .float .f64 0], .float .f64 0, .float .f64 4602678819172646912] ?_; (with_reducible refine (impl_StepOnce.calls b_ft402 ft402 b_ft404 ft404 0 (cn .f64 0) 0 (cn .f64 0) 0 (cn .f64 0) 0 (cn .f64 0) 0 (cn .f64 0) 0 (cn .f64 0) 0 (cn .f64 0) 0 (cn .f64 0) 4602678819172646912 (cn .f64 4602678819172646912) B2 B3 B4 B5 _ ?c2 ?c4 ?g7 ?g8 ?g9 ?h2 ?h3 ?h4 ?h5 ?m4 ?m5 A84.out).mono ?_); (case c2 => exact hF_ft402); (case c4 => exact hF_ft404); (case g7 => exact rfl); (case g8 => exact rfl); (case g9 => exact rfl); (case h2 => exact rfl); (case h3 => exact rfl); (case h4 => exact rfl); (case h5 => exact rfl); (case m4 => exact rfl); (case m5 => exact rfl); rintro e w89 ⟨m3, m6, n7, p2, rfl, q9, s0, s1, s2, hb⟩; refine ⟨_, rfl, ?_⟩; replace b4 := mk_ (blk_below (g := E4) (o := .cells #[.float .f64 b_ft402, .float .f64 b_ft404, .float .f64 0, .float .f64 0] 60 (0, 0)) (by (with_reducible repeat (first | refine blk_drewN ?_ _ | refine blk_drew ?_ | refine blk_alloc ?_ _)); refine blk_put (cs := #[.float .f64 b_ft402, .float .f64 b_ft404, .float .f64 0, .float .f64 0]) ?_ 3 _ rfl; (with_reducible repeat (first | refine blk_drewN ?_ _ | refine blk_drew ?_ | refine blk_alloc ?_ _)); refine blk_put (cs := #[.float .f64 b_ft402, .float .f64 b_ft404, .float .f64 0, .float .f64 0]) ?_ 2 _ rfl; (with_reducible repeat (first | refine blk_drewN ?_ _ | refine blk_drew ?_ | refine blk_alloc ?_ _)); refine blk_put (cs := #[.float .f64 b_ft402, .float .f64 0, .float .f64 0, .float .f64 0]) ?_ 1 _ rfl; (with_reducible repeat (first | refine blk_drewN ?_ _ | refine blk_drew ?_ | refine blk_alloc ?_ _)); refine blk_put (cs := #[.float .f64 0, .float .f64 0, .float .f64 0, .float .f64 0]) ?_ 0 _ rfl; (with_reducible repeat (first | refine blk_drewN ?_ _ | refine blk_drew ?_ | refine blk_alloc ?_ _)); exact b4.out) hb); replace HB := mk_ (below_step (by repeat (first | (with_reducible first | exact HB.out | apply below_alloc | apply pw_below_drewN | apply below_drew1 | refine below_set ?_ M2.out) | exact HB.out)) hb); (try clear hb); (try clear E8); (try clear hk); (try clear hi)) | ((with_reducible refine gd_ 18 rfl ?_); (try (refine gate_guard (by rfl) ?_; dsimp only)); refine box_event ?hg (N := 18) ?hd (cs := #[.float .f64 0, .float .f64 0, .float .f64 0, .float .f64 0]) (t := 60) ?hr ?_; (case hd => rfl); (case hg => rfl); (case hr => exact hr_); intro F7 hg w90 hbox hb; have b8 := mk_ (hbox); have M3 := gb_ hg HB; replace HB := bp_ HB hb; have M4 := M3; have d3 := nb_ hg b4; replace b4 := bl_ b4 hb; have j7 := ns_ d3; clear hb hbox hg; have ap3 := j7.out; have ap4 := d3.out; have aj2 := bc0_ b8; have aj3 := bc1_ b8; have aj4 := bc2_ b8; have aj5 := bc3_ b8; have aj6 := bf_ b8 0; have aj7 := bf_ b8 1; have aj8 := bf_ b8 2; have aj9 := bf_ b8 3; have ak0 := bc0_ b4; have ak1 := bc1_ b4; have ak2 := bc2_ b4; have ak3 := bc3_ b4; have ak4 := bf_ b4 0; have ak5 := bf_ b4 1; have ak6 := bf_ b4 2; have ak7 := bf_ b4 3) | ((with_reducible refine gc_ 48 rfl ?_); refine gl_ (some 151) rfl Try.func48 #[.agg #[.float .f64 b_ft402, .float .f64 b_ft404, .float .f64 0, .float .f64 0], .agg #[.float .f64 0, .float .f64 0, .float .f64 4607182418800017408, .float .f64 0, .float .f64 4607182418800017408]] ?_; (with_reducible refine (impl_Load5.calls kj25 b_ft402 ft402 b_ft404 ft404 0 (cn .f64 0) 0 (cn .f64 0) 0 (cn .f64 0) 0 (cn .f64 0) 4607182418800017408 (cn .f64 4607182418800017408) 0 (cn .f64 0) 4607182418800017408 (cn .f64 4607182418800017408) H7 L8 _ ?c2 ?c4 ?g7 ?g8 ?g9 ?h2 ?h3 ?h4 ?h5 A85.out).mono ?_); (case c2 => exact hF_ft402); (case c4 => exact hF_ft404); (case g7 => exact rfl); (case g8 => exact rfl); (case g9 => exact rfl); (case h2 => exact rfl); (case h3 => exact rfl); (case h4 => exact rfl); (case h5 => exact rfl); rintro e w94 ⟨am3, rfl, ak8, hb⟩; refine ⟨_, rfl, ?_⟩; replace b4 := mk_ (blk_below (g := E4) (o := .cells #[.float .f64 b_ft402, .float .f64 b_ft404, .float .f64 0, .float .f64 0] 60 (0, 0)) (by (with_reducible repeat (first | refine blk_drewN ?_ _ | refine blk_drew ?_ | refine blk_alloc ?_ _)); refine blk_far ?_ d3.out _; (with_reducible repeat (first | refine blk_drewN ?_ _ | refine blk_drew ?_ | refine blk_alloc ?_ _)); refine blk_far ?_ d3.out _; (with_reducible repeat (first | refine blk_drewN ?_ _ | refine blk_drew ?_ | refine blk_alloc ?_ _)); refine blk_far ?_ d3.out _; (with_reducible repeat (first | refine blk_drewN ?_ _ | refine blk_drew ?_ | refine blk_alloc ?_ _)); refine blk_far ?_ d3.out _; (with_reducible repeat (first | refine blk_drewN ?_ _ | refine blk_drew ?_ | refine blk_alloc ?_ _)); exact b4.out) hb); replace b8 := mk_ (blk_below (g := F7) (o := .cells #[.float .f64 m3, .float .f64 m6, .float .f64 n7, .float .f64 p2] 60 (0, 0)) (by (with_reducible repeat (first | refine blk_drewN ?_ _ | refine blk_drew ?_ | refine blk_alloc ?_ _)); refine blk_put (cs := #[.float .f64 m3, .float .f64 m6, .float .f64 n7, .float .f64 0]) ?_ 3 _ rfl; (with_reducible repeat (first | refine blk_drewN ?_ _ | refine blk_drew ?_ | refine blk_alloc ?_ _)); refine blk_put (cs := #[.float .f64 m3, .float .f64 m6, .float .f64 0, .float .f64 0]) ?_ 2 _ rfl; (with_reducible repeat (first | refine blk_drewN ?_ _ | refine blk_drew ?_ | refine blk_alloc ?_ _)); refine blk_put (cs := #[.float .f64 m3, .float .f64 0, .float .f64 0, .float .f64 0]) ?_ 1 _ rfl; (with_reducible repeat (first | refine blk_drewN ?_ _ | refine blk_drew ?_ | refine blk_alloc ?_ _)); refine blk_put (cs := #[.float .f64 0, .float .f64 0, .float .f64 0, .float .f64 0]) ?_ 0 _ rfl; (with_reducible repeat (first | refine blk_drewN ?_ _ | refine blk_drew ?_ | refine blk_alloc ?_ _)); exact b8.out) hb); replace HB := mk_ (below_step (by repeat (first | (with_reducible first | exact HB.out | apply below_alloc | apply pw_below_drewN | apply below_drew1 | refine below_set ?_ M4.out) | exact HB.out)) hb); (try clear hb); (try clear E8); (try clear hk); (try clear hi)))
         (try simp only [Act.put, List.setIfInBounds_toArray, List.set_cons_zero, List.set_cons_succ])
         go_cut [2] (fun v2 wc => ∃ (kq : Nat) (E5 : Bool), v2 = .bool E5 ∧ Aside0 (laws_FnFlown.j6 kq E5 = some r) ∧ Aside0 (kq ≤ kj25) ∧ Aside0 (wc.heap[E4]? = some (.cells #[.float .f64 b_ft402, .float .f64 b_ft404, .float .f64 0, .float .f64 0] 60 (0, 0))) ∧ Aside0 (wc.heap[F7]? = some (.cells #[.float .f64 m3, .float .f64 m6, .float .f64 n7, .float .f64 p2] 60 (0, 0))) ∧ Aside0 (Below w.heap.size w wc))
         case first =>
          have H := H8.out; clear H8; by_cases I2 : (fcmp .eql .f64 B2 ft402 && (fcmp .eql .f64 B3 ft404 && (fcmp .eql .f64 B4 (cn .f64 0) && (fcmp .eql .f64 B5 (cn .f64 0))))) = true
          ·rw [if_pos I2] at H
           have t6 : (fcmp .eql .f64 B2 ft402 && (fcmp .eql .f64 B3 ft404 && (fcmp .eql .f64 B4 (cn .f64 0) && (fcmp .eql .f64 B5 (cn .f64 0))))) = true := I2
           clear I2
           (first | rw [t6] | (simp only [i64_w, i32_w]; rw [t6]) | skip)
           replace H := Option.bind_eq_some_iff.mp H; obtain ⟨t9, M5, H⟩ := H
           (try dsimp only at H); have A96 := mk_ M5; clear M5
           by_cases c97 : t9 = true
           ·subst c97; rw [if_pos rfl] at H
            by_cases c98 : L8 = true
            ·subst c98; rw [if_pos rfl] at H
             obtain ⟨ft414, hft414⟩ : ∃ y_ : Fl, y_ = (fop .mul .f64 ft402 ft402) := ⟨_, rfl⟩
             replace H : (laws_FnFlown.j6 kj25 (fcmp .eql .f64 H7 ft414)) = some r := by first | (rw [hft414]; with_reducible exact H) | (have H2_ := (Option.bind_some _ _).symm.trans H; rw [hft414]; with_reducible exact H2_) | (have H2_ := (Option.bind_some _ _).symm.trans H; with_reducible exact H2_) | with_reducible exact H | (rw [hft414]; exact H) | exact H
             have Nft414 := mk_ hft414; clear hft414
             have H' := mk_ H
             clear H; have ap5 := j7.out; have ap6 := d3.out; have M6 := bc0_ b8; have M7 := bc1_ b8; have M8 := bc2_ b8; have M9 := bc3_ b8; have N0 := bf_ b8 0; have N1 := bf_ b8 1; have N2 := bf_ b8 2; have N3 := bf_ b8 3; have N4 := bc0_ b4; have N5 := bc1_ b4; have N6 := bc2_ b4; have N7 := bc3_ b4; have N8 := bf_ b4 0; have N9 := bf_ b4 1; have O0 := bf_ b4 2; have O1 := bf_ b4 3
             go_wp2_with (first | (go_at_call 49; (with_reducible refine (impl_Near5.calls kj25 m3 B2 m6 B3 n7 B4 p2 B5 b_ft402 ft402 b_ft404 ft404 0 (cn .f64 0) 0 (cn .f64 0) 0 (cn .f64 0) true _ ?c2 ?c4 ?g7 ?g8 ?g9 ?h2 ?h3 ?h4 ?h5 A96.out).mono ?_); (case c2 => exact q9); (case c4 => exact s0); (case g7 => exact s1); (case g8 => exact s2); (case g9 => exact hF_ft402); (case h2 => exact hF_ft404); (case h3 => exact rfl); (case h4 => exact rfl); (case h5 => exact rfl); rintro e ar4 ⟨rfl, hb⟩; replace b4 := bl_ b4 hb; replace b8 := bl_ b8 hb; replace HB := bp_ HB hb; (try clear hb); (try clear E8); (try clear hk); (try clear hi); have O2 := bc0_ b4; have O3 := bc1_ b4; have O4 := bc2_ b4; have O5 := bc3_ b4; have O6 := bf_ b4 0; have O7 := bf_ b4 1; have O8 := bf_ b4 2; have O9 := bf_ b4 3) | ((with_reducible refine gd_ 171 rfl ?_); (try (refine gate_guard (by rfl) ?_; dsimp only)); (try (refine gate_guard (by rfl) ?_; dsimp only)); refine fop_event rfl (N := 171) rfl (op := .mul) (by simp) rfl .f64 b_ft402 b_ft402 ft402 ft402 rfl rfl hF_ft402 hF_ft402 ?_; intro b_ft414 nf_ hF_; replace hF_ := hF_.trans Nft414.out.symm; have hF_ft414 := hF_; clear hF_))
             go_meet
             case rel => exact ⟨_, ((fcmp .eql .f64 H7 ft414)), rf_, H', ⟨by have := t7.out; have := m7.out; have := E7.out; first | omega | exact Nat.le_refl _⟩, bw_ b4, bw_ b8, ⟨hw_ HB⟩⟩
            ·replace c98 := Bool.eq_false_iff.mpr c98; subst c98; rw [if_neg (show ¬ (false = true) by decide)] at H
             have H' := mk_ H
             clear H; have am4 := j7.out; have am5 := d3.out; have P0 := bc0_ b8; have P1 := bc1_ b8; have P2 := bc2_ b8; have P3 := bc3_ b8; have P4 := bf_ b8 0; have P5 := bf_ b8 1; have P6 := bf_ b8 2; have P7 := bf_ b8 3; have P8 := bc0_ b4; have P9 := bc1_ b4; have Q0 := bc2_ b4; have Q1 := bc3_ b4; have Q2 := bf_ b4 0; have Q3 := bf_ b4 1; have Q4 := bf_ b4 2; have Q5 := bf_ b4 3
             go_wp2_with (first | (go_at_call 49; (with_reducible refine (impl_Near5.calls kj25 m3 B2 m6 B3 n7 B4 p2 B5 b_ft402 ft402 b_ft404 ft404 0 (cn .f64 0) 0 (cn .f64 0) 0 (cn .f64 0) true _ ?c2 ?c4 ?g7 ?g8 ?g9 ?h2 ?h3 ?h4 ?h5 A96.out).mono ?_); (case c2 => exact q9); (case c4 => exact s0); (case g7 => exact s1); (case g8 => exact s2); (case g9 => exact hF_ft402); (case h2 => exact hF_ft404); (case h3 => exact rfl); (case h4 => exact rfl); (case h5 => exact rfl); rintro e ar5 ⟨rfl, hb⟩; replace b4 := bl_ b4 hb; replace b8 := bl_ b8 hb; replace HB := bp_ HB hb; (try clear hb); (try clear E8); (try clear hk); (try clear hi)))
             go_meet
             case rel => exact ⟨_, (false), rf_, H', ⟨by have := t7.out; have := m7.out; have := E7.out; first | omega | exact Nat.le_refl _⟩, bw_ b4, bw_ b8, ⟨hw_ HB⟩⟩
           ·replace c97 := Bool.eq_false_iff.mpr c97; subst c97; rw [if_neg (show ¬ (false = true) by decide)] at H
            have H' := mk_ H
            clear H; have am6 := j7.out; have am7 := d3.out; have Q6 := bc0_ b8; have Q7 := bc1_ b8; have Q8 := bc2_ b8; have Q9 := bc3_ b8; have R0 := bf_ b8 0; have R1 := bf_ b8 1; have R2 := bf_ b8 2; have R3 := bf_ b8 3; have R4 := bc0_ b4; have R5 := bc1_ b4; have R6 := bc2_ b4; have R7 := bc3_ b4; have R8 := bf_ b4 0; have R9 := bf_ b4 1; have V0 := bf_ b4 2; have V1 := bf_ b4 3
            go_wp2_with (first | (go_at_call 49; (with_reducible refine (impl_Near5.calls kj25 m3 B2 m6 B3 n7 B4 p2 B5 b_ft402 ft402 b_ft404 ft404 0 (cn .f64 0) 0 (cn .f64 0) 0 (cn .f64 0) false _ ?c2 ?c4 ?g7 ?g8 ?g9 ?h2 ?h3 ?h4 ?h5 A96.out).mono ?_); (case c2 => exact q9); (case c4 => exact s0); (case g7 => exact s1); (case g8 => exact s2); (case g9 => exact hF_ft402); (case h2 => exact hF_ft404); (case h3 => exact rfl); (case h4 => exact rfl); (case h5 => exact rfl); rintro e ar6 ⟨rfl, hb⟩; replace b4 := bl_ b4 hb; replace b8 := bl_ b8 hb; replace HB := bp_ HB hb; (try clear hb); (try clear E8); (try clear hk); (try clear hi)))
            go_meet
            case rel => exact ⟨_, (false), rf_, H', ⟨by have := t7.out; have := m7.out; have := E7.out; first | omega | exact Nat.le_refl _⟩, bw_ b4, bw_ b8, ⟨hw_ HB⟩⟩
          ·rw [if_neg I2] at H
           have t6 : (fcmp .eql .f64 B2 ft402 && (fcmp .eql .f64 B3 ft404 && (fcmp .eql .f64 B4 (cn .f64 0) && (fcmp .eql .f64 B5 (cn .f64 0))))) = false := by simpa using I2
           clear I2
           (first | rw [t6] | (simp only [i64_w, i32_w]; rw [t6]) | skip)
           have H' := mk_ H
           clear H; have am8 := j7.out; have am9 := d3.out; have V2 := bc0_ b8; have V3 := bc1_ b8; have V4 := bc2_ b8; have V5 := bc3_ b8; have V6 := bf_ b8 0; have V7 := bf_ b8 1; have V8 := bf_ b8 2; have V9 := bf_ b8 3; have W0 := bc0_ b4; have W1 := bc1_ b4; have W2 := bc2_ b4; have W3 := bc3_ b4; have W4 := bf_ b4 0; have W5 := bf_ b4 1; have W6 := bf_ b4 2; have W7 := bf_ b4 3; go_wp2; go_meet
           case rel => exact ⟨_, (false), rf_, H', ⟨by have := t7.out; have := m7.out; have := E7.out; first | omega | exact Nat.le_refl _⟩, bw_ b4, bw_ b8, ⟨hw_ HB⟩⟩
         case rest =>
          clear H8; (try clear c3)
          obtain ⟨kq, E5, rfl, HA, ar7, b4, b8, HB⟩ := hcut
          cases kq with
          | zero => exact absurd HA.out (by simp [laws_FnFlown.j6])
          | succ kj85 =>
           have H := HA.out; clear HA
           simp only [laws_FnFlown.j6] at H
           obtain rfl := Option.some.inj H; go_wp2
           go_ret
           exact ⟨re_, hw_ HB⟩

/-- THE ONE PURE STATEMENT of laws_FnFlown: yours. -/
def laws_FnFlown.Pure : Prop := ∀ (l0 : List Int), l0.length ≤ maxLen → l0.length * 1 ≤ 140737488351232 → (∀ x ∈ l0, (Lit.int .u8 x).wf = true) → ∃ k, laws_FnFlown.f k l0 = some true
theorem laws_FnFlown.walk (P : laws_FnFlown.Pure) (a0 : Option Addr) (len0 cap0 : Nat) (z0 : List Int) (w : World) (w0 : (a0 = none ∧ len0 = 0 ∧ cap0 = 0 ∧ z0 = []) ∨ ∃ x, a0 = some x ∧ len0 ≤ cap0 ∧ cap0 ≤ maxLen ∧ z0.length = cap0 ∧ (∀ i, i < z0.length → w.cell? (x.add i) = some (.int .u8 (z0.getD i 0))) ∧ ∀ n ∈ z0, (Lit.int .u8 n).wf = true) (y0 : len0 * 1 ≤ 140737488351232) :
  Calls Try.prog 10 #[.slice a0 len0 cap0] w fun e w' => e = .returned (.bool true) ∧ Below w.heap.size w w' := by
 obtain ⟨l0, rfl, hr0, hm0, hw0, hc0⟩ := ReadsInt.ofRowC w0
 obtain ⟨k, h⟩ := P l0 hm0 y0 hw0
 refine (laws_FnFlown.calls k _ _ l0 true w (Kd.C_of_reads (d := (0 : Int)) (h1 := fun _ => rfl) hr0) hc0 h).mono ?_
 rintro e w' ⟨rfl, hd⟩
 exact ⟨rfl, hd⟩

end Go.Proofs.Ytkginilghcepbaa.QFnFlown
-- squeezed
