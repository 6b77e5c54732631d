/- Lean functions that tell what the Go functions used by one law answer, and for each a proof that the Go code comes to just these answers; no condition. Printed by this session's own program over the kit's printer. -/
import Derived.Test.YtnphbpkpjinddaaWSq
import Derived.Test.YtnphbpkpjinddaaQFnTablesx0
import Derived.Test.YtnphbpkpjinddaaQFnTablesx1
import Derived.Test.YtnphbpkpjinddaaQFnTablesx2
import Derived.Test.YtnphbpkpjinddaaQFnTablesx3
import Derived.Test.YtnphbpkpjinddaaQFnTablesx5
import Derived.Test.YtnphbpkpjinddaaQFnTablesx6
namespace Go.Proofs.Ytnphbpkpjinddaa.QFnTables
open Go.RowKit Go.Proofs.YtnphbpkpjinddaaW.PrintWords Go.Proofs.YtnphbpkpjinddaaW.PrintLast Go.Proofs.YtnphbpkpjinddaaW.PrintMore
attribute [local go_sem] max2_int min2_int max_two min_two max_three min_three max_four min_four   -- for this text's walks alone
attribute [local go_sem high] go_eql go_neq go_lss go_leq go_gtr go_geq go_store   -- for this text's walks alone
set_option linter.unusedVariables false
set_option linter.unusedSimpArgs false

/-! ### laws_FnTables: function 6 -/
mutual
def laws_FnTables.j0 : Nat → Int → Bool → List Int → List Int → Int → Int → Option (Bool)
 | 0, _, _, _, _, _, _ => none
 | k + 1, x4, x44, c7, b5, h0, h2 => if x44 = true then (some false) else (laws_FnTables.l0 k x4 0 c7 b5 h0 h2)
def laws_FnTables.l0 : Nat → Int → Int → List Int → List Int → Int → Int → Option (Bool)
 | 0, _, _, _, _, _, _ => none
 | k + 1, x4, x7, c7, b5, h0, h2 => if x7 < (c7.length : Int) then (if 0 ≤ x7 then ((impl_At.f k c7 b5 (rd c7 x7)).bind fun C3 => (if C3.2.2 = true then (if C3.2.1 = 1 then (if x7 < (b5.length : Int) then (laws_FnTables.j2 k x4 x7 (C3.1 != (rd b5 x7)) c7 b5 h0 h2) else (none)) else (laws_FnTables.j2 k x4 x7 true c7 b5 h0 h2)) else (laws_FnTables.j2 k x4 x7 true c7 b5 h0 h2))) else (none)) else (if 0 < (c7.length : Int) then ((impl_Held.f k c7 b5 (wrap64 ((rd c7 0) - 5))).bind fun F0 => (if 0 < (b5.length : Int) then (if F0.1 = (rd b5 0) then (laws_FnTables.j6 k (F0.2.1 != 1) c7 b5) else (laws_FnTables.j6 k true c7 b5)) else (none))) else (none))
def laws_FnTables.j2 : Nat → Int → Int → Bool → List Int → List Int → Int → Int → Option (Bool)
 | 0, _, _, _, _, _, _, _ => none
 | k + 1, x4, x7, x78, c7, b5, h0, h2 => if x78 = true then (some false) else (if x7 > 0 then (if 0 ≤ (wrap64 (x7 - 1)) then (if (wrap64 (x7 - 1)) < (c7.length : Int) then (if (rd c7 (wrap64 (x7 - 1))) ≤ x4 then (if 0 ≤ x7 then (if x7 < (c7.length : Int) then (laws_FnTables.j3 k x4 x7 (decide (x4 ≤ (rd c7 x7))) c7 b5 h0 h2) else (none)) else (none)) else (laws_FnTables.j3 k x4 x7 false c7 b5 h0 h2)) else (none)) else (none)) else (laws_FnTables.j3 k x4 x7 false c7 b5 h0 h2))
def laws_FnTables.j3 : Nat → Int → Int → Bool → List Int → List Int → Int → Int → Option (Bool)
 | 0, _, _, _, _, _, _, _ => none
 | k + 1, x4, x7, x99, c7, b5, h0, h2 => if x99 = true then (if 0 ≤ (wrap64 (x7 - 1)) then (if (wrap64 (x7 - 1)) < (b5.length : Int) then (if 0 ≤ x7 then (if x7 < (b5.length : Int) then (if (rd b5 (wrap64 (x7 - 1))) > (rd b5 x7) then (laws_FnTables.j4 k x4 x7 (rd b5 x7) (rd b5 (wrap64 (x7 - 1))) c7 b5 h0 h2) else (laws_FnTables.j4 k x4 x7 (rd b5 (wrap64 (x7 - 1))) (rd b5 x7) c7 b5 h0 h2)) else (none)) else (none)) else (none)) else (none)) else (laws_FnTables.l0 k x4 (wrap64 (x7 + 1)) c7 b5 h0 h2)
def laws_FnTables.j4 : Nat → Int → Int → Int → Int → List Int → List Int → Int → Int → Option (Bool)
 | 0, _, _, _, _, _, _, _, _ => none
 | k + 1, x4, x7, x10, x11, c7, b5, h0, h2 => if h0 < (wrap64 (x10 * h2)) then (laws_FnTables.j5 k x4 x7 true c7 b5 h0 h2) else (laws_FnTables.j5 k x4 x7 (decide (h0 > (wrap64 (x11 * h2)))) c7 b5 h0 h2)
def laws_FnTables.j5 : Nat → Int → Int → Bool → List Int → List Int → Int → Int → Option (Bool)
 | 0, _, _, _, _, _, _, _ => none
 | k + 1, x4, x7, ab2, c7, b5, h0, h2 => if ab2 = true then (some false) else (laws_FnTables.l0 k x4 (wrap64 (x7 + 1)) c7 b5 h0 h2)
def laws_FnTables.j6 : Nat → Bool → List Int → List Int → Option (Bool)
 | 0, _, _, _ => none
 | k + 1, ab3, c7, b5 => if ab3 = true then (some false) else (if 0 ≤ (wrap64 ((b5.length : Int) / 2)) then (if (wrap64 ((b5.length : Int) / 2)) < (b5.length : Int) then ((impl_Find.f k c7 b5 (rd b5 (wrap64 ((b5.length : Int) / 2)))).bind fun p2 => (if p2.2 = true then ((impl_At.f k c7 b5 p2.1).bind fun q6 => ((impl_At.f k c7 b5 (wrap64 (p2.1 - 1))).bind fun p3 => (if q6.1 ≥ (wrap64 ((rd b5 (wrap64 ((b5.length : Int) / 2))) * q6.2.1)) then (if p3.2.2 = true then (some (decide (p3.1 < (wrap64 ((rd b5 (wrap64 ((b5.length : Int) / 2))) * p3.2.1))))) else (some true)) else (some false)))) else (some false))) else (none)) else (none))
end
def laws_FnTables.f (k : Nat) (l0 : List Int) : Option (Bool) := (laws_big.f l0).bind fun C4 => (if C4 = true then (some true) else ((spec_DrawCurve.f k l0).bind fun h9 => ((impl_At.f k h9.1 h9.2.1 h9.2.2).bind fun n0 => (if n0.2.2 = true then ((impl_CurveOk.f k h9.1 h9.2.1).bind fun C5 => (if C5 = true then (laws_FnTables.j0 k h9.2.2 (decide (n0.2.1 < 1)) h9.1 h9.2.1 n0.1 n0.2.1) else (laws_FnTables.j0 k h9.2.2 true h9.1 h9.2.1 n0.1 n0.2.1))) else (laws_FnTables.j0 k h9.2.2 true h9.1 h9.2.1 n0.1 n0.2.1)))))
theorem laws_FnTables.mono_l : ∀ k, (∀ y0 y1 y2 y3 y4 y5, LeO (laws_FnTables.j0 k y0 y1 y2 y3 y4 y5) (laws_FnTables.j0 (k + 1) y0 y1 y2 y3 y4 y5)) ∧ (∀ y0 y1 y2 y3 y4 y5, LeO (laws_FnTables.l0 k y0 y1 y2 y3 y4 y5) (laws_FnTables.l0 (k + 1) y0 y1 y2 y3 y4 y5)) ∧ (∀ y0 y1 y2 y3 y4 y5 y6, LeO (laws_FnTables.j2 k y0 y1 y2 y3 y4 y5 y6) (laws_FnTables.j2 (k + 1) y0 y1 y2 y3 y4 y5 y6)) ∧ (∀ y0 y1 y2 y3 y4 y5 y6, LeO (laws_FnTables.j3 k y0 y1 y2 y3 y4 y5 y6) (laws_FnTables.j3 (k + 1) y0 y1 y2 y3 y4 y5 y6)) ∧ (∀ y0 y1 y2 y3 y4 y5 y6 y7, LeO (laws_FnTables.j4 k y0 y1 y2 y3 y4 y5 y6 y7) (laws_FnTables.j4 (k + 1) y0 y1 y2 y3 y4 y5 y6 y7)) ∧ (∀ y0 y1 y2 y3 y4 y5 y6, LeO (laws_FnTables.j5 k y0 y1 y2 y3 y4 y5 y6) (laws_FnTables.j5 (k + 1) y0 y1 y2 y3 y4 y5 y6)) ∧ (∀ y0 y1 y2, LeO (laws_FnTables.j6 k y0 y1 y2) (laws_FnTables.j6 (k + 1) y0 y1 y2))
 | 0 => ⟨fun _ _ _ _ _ _ r h => by simp [laws_FnTables.j0] at h, fun _ _ _ _ _ _ r h => by simp [laws_FnTables.l0] at h, fun _ _ _ _ _ _ _ r h => by simp [laws_FnTables.j2] at h, fun _ _ _ _ _ _ _ r h => by simp [laws_FnTables.j3] at h, fun _ _ _ _ _ _ _ _ r h => by simp [laws_FnTables.j4] at h, fun _ _ _ _ _ _ _ r h => by simp [laws_FnTables.j5] at h, fun _ _ _ r h => by simp [laws_FnTables.j6] at h⟩
 | k + 1 => by
  obtain ⟨q7, q8, q9, s0, s1, s2, s3⟩ := laws_FnTables.mono_l k
  refine ⟨?_, ?_, ?_, ?_, ?_, ?_, ?_⟩
  ·intro y0 y1 y2 y3 y4 y5
   unfold laws_FnTables.j0
   repeat' first
   | (with_reducible exact q7 _ _ _ _ _ _)
   | (with_reducible exact q8 _ _ _ _ _ _)
   | (with_reducible exact q9 _ _ _ _ _ _ _)
   | (with_reducible exact s0 _ _ _ _ _ _ _)
   | (with_reducible exact s1 _ _ _ _ _ _ _ _)
   | (with_reducible exact s2 _ _ _ _ _ _ _)
   | (with_reducible exact s3 _ _ _)
   | (with_reducible exact impl_At.mono _ _ _ _)
   | (with_reducible exact impl_CurveOk.mono _ _ _)
   | (with_reducible exact impl_Find.mono _ _ _ _)
   | (with_reducible exact impl_Held.mono _ _ _ _)
   | (with_reducible exact spec_DrawCurve.mono _ _)
   | (with_reducible exact LeO.refl _)
   | (with_reducible exact LeO.none _)
   | (with_reducible refine LeO.ite ?_ ?_)
   | (with_reducible refine LeO.bind ?_ (fun _ => ?_))
   | exact q7 _ _ _ _ _ _
   | exact q8 _ _ _ _ _ _
   | exact q9 _ _ _ _ _ _ _
   | exact s0 _ _ _ _ _ _ _
   | exact s1 _ _ _ _ _ _ _ _
   | exact s2 _ _ _ _ _ _ _
   | exact s3 _ _ _
   | exact impl_At.mono _ _ _ _
   | exact impl_CurveOk.mono _ _ _
   | exact impl_Find.mono _ _ _ _
   | exact impl_Held.mono _ _ _ _
   | exact spec_DrawCurve.mono _ _
   | exact LeO.none _
   | refine LeO.ite ?_ ?_
   | refine LeO.bind ?_ (fun _ => ?_)
  ·intro y0 y1 y2 y3 y4 y5
   unfold laws_FnTables.l0
   repeat' first
   | (with_reducible exact q7 _ _ _ _ _ _)
   | (with_reducible exact q8 _ _ _ _ _ _)
   | (with_reducible exact q9 _ _ _ _ _ _ _)
   | (with_reducible exact s0 _ _ _ _ _ _ _)
   | (with_reducible exact s1 _ _ _ _ _ _ _ _)
   | (with_reducible exact s2 _ _ _ _ _ _ _)
   | (with_reducible exact s3 _ _ _)
   | (with_reducible exact impl_At.mono _ _ _ _)
   | (with_reducible exact impl_CurveOk.mono _ _ _)
   | (with_reducible exact impl_Find.mono _ _ _ _)
   | (with_reducible exact impl_Held.mono _ _ _ _)
   | (with_reducible exact spec_DrawCurve.mono _ _)
   | (with_reducible exact LeO.refl _)
   | (with_reducible exact LeO.none _)
   | (with_reducible refine LeO.ite ?_ ?_)
   | (with_reducible refine LeO.bind ?_ (fun _ => ?_))
   | exact q7 _ _ _ _ _ _
   | exact q8 _ _ _ _ _ _
   | exact q9 _ _ _ _ _ _ _
   | exact s0 _ _ _ _ _ _ _
   | exact s1 _ _ _ _ _ _ _ _
   | exact s2 _ _ _ _ _ _ _
   | exact s3 _ _ _
   | exact impl_At.mono _ _ _ _
   | exact impl_CurveOk.mono _ _ _
   | exact impl_Find.mono _ _ _ _
   | exact impl_Held.mono _ _ _ _
   | exact spec_DrawCurve.mono _ _
   | exact LeO.none _
   | refine LeO.ite ?_ ?_
   | refine LeO.bind ?_ (fun _ => ?_)
  ·intro y0 y1 y2 y3 y4 y5 y6
   unfold laws_FnTables.j2
   repeat' first
   | (with_reducible exact q7 _ _ _ _ _ _)
   | (with_reducible exact q8 _ _ _ _ _ _)
   | (with_reducible exact q9 _ _ _ _ _ _ _)
   | (with_reducible exact s0 _ _ _ _ _ _ _)
   | (with_reducible exact s1 _ _ _ _ _ _ _ _)
   | (with_reducible exact s2 _ _ _ _ _ _ _)
   | (with_reducible exact s3 _ _ _)
   | (with_reducible exact impl_At.mono _ _ _ _)
   | (with_reducible exact impl_CurveOk.mono _ _ _)
   | (with_reducible exact impl_Find.mono _ _ _ _)
   | (with_reducible exact impl_Held.mono _ _ _ _)
   | (with_reducible exact spec_DrawCurve.mono _ _)
   | (with_reducible exact LeO.refl _)
   | (with_reducible exact LeO.none _)
   | (with_reducible refine LeO.ite ?_ ?_)
   | (with_reducible refine LeO.bind ?_ (fun _ => ?_))
   | exact q7 _ _ _ _ _ _
   | exact q8 _ _ _ _ _ _
   | exact q9 _ _ _ _ _ _ _
   | exact s0 _ _ _ _ _ _ _
   | exact s1 _ _ _ _ _ _ _ _
   | exact s2 _ _ _ _ _ _ _
   | exact s3 _ _ _
   | exact impl_At.mono _ _ _ _
   | exact impl_CurveOk.mono _ _ _
   | exact impl_Find.mono _ _ _ _
   | exact impl_Held.mono _ _ _ _
   | exact spec_DrawCurve.mono _ _
   | exact LeO.none _
   | refine LeO.ite ?_ ?_
   | refine LeO.bind ?_ (fun _ => ?_)
  ·intro y0 y1 y2 y3 y4 y5 y6
   unfold laws_FnTables.j3
   repeat' first
   | (with_reducible exact q7 _ _ _ _ _ _)
   | (with_reducible exact q8 _ _ _ _ _ _)
   | (with_reducible exact q9 _ _ _ _ _ _ _)
   | (with_reducible exact s0 _ _ _ _ _ _ _)
   | (with_reducible exact s1 _ _ _ _ _ _ _ _)
   | (with_reducible exact s2 _ _ _ _ _ _ _)
   | (with_reducible exact s3 _ _ _)
   | (with_reducible exact impl_At.mono _ _ _ _)
   | (with_reducible exact impl_CurveOk.mono _ _ _)
   | (with_reducible exact impl_Find.mono _ _ _ _)
   | (with_reducible exact impl_Held.mono _ _ _ _)
   | (with_reducible exact spec_DrawCurve.mono _ _)
   | (with_reducible exact LeO.refl _)
   | (with_reducible exact LeO.none _)
   | (with_reducible refine LeO.ite ?_ ?_)
   | (with_reducible refine LeO.bind ?_ (fun _ => ?_))
   | exact q7 _ _ _ _ _ _
   | exact q8 _ _ _ _ _ _
   | exact q9 _ _ _ _ _ _ _
   | exact s0 _ _ _ _ _ _ _
   | exact s1 _ _ _ _ _ _ _ _
   | exact s2 _ _ _ _ _ _ _
   | exact s3 _ _ _
   | exact impl_At.mono _ _ _ _
   | exact impl_CurveOk.mono _ _ _
   | exact impl_Find.mono _ _ _ _
   | exact impl_Held.mono _ _ _ _
   | exact spec_DrawCurve.mono _ _
   | exact LeO.none _
   | refine LeO.ite ?_ ?_
   | refine LeO.bind ?_ (fun _ => ?_)
  ·intro y0 y1 y2 y3 y4 y5 y6 y7
   unfold laws_FnTables.j4
   repeat' first
   | (with_reducible exact q7 _ _ _ _ _ _)
   | (with_reducible exact q8 _ _ _ _ _ _)
   | (with_reducible exact q9 _ _ _ _ _ _ _)
   | (with_reducible exact s0 _ _ _ _ _ _ _)
   | (with_reducible exact s1 _ _ _ _ _ _ _ _)
   | (with_reducible exact s2 _ _ _ _ _ _ _)
   | (with_reducible exact s3 _ _ _)
   | (with_reducible exact impl_At.mono _ _ _ _)
   | (with_reducible exact impl_CurveOk.mono _ _ _)
   | (with_reducible exact impl_Find.mono _ _ _ _)
   | (with_reducible exact impl_Held.mono _ _ _ _)
   | (with_reducible exact spec_DrawCurve.mono _ _)
   | (with_reducible exact LeO.refl _)
   | (with_reducible exact LeO.none _)
   | (with_reducible refine LeO.ite ?_ ?_)
   | (with_reducible refine LeO.bind ?_ (fun _ => ?_))
   | exact q7 _ _ _ _ _ _
   | exact q8 _ _ _ _ _ _
   | exact q9 _ _ _ _ _ _ _
   | exact s0 _ _ _ _ _ _ _
   | exact s1 _ _ _ _ _ _ _ _
   | exact s2 _ _ _ _ _ _ _
   | exact s3 _ _ _
   | exact impl_At.mono _ _ _ _
   | exact impl_CurveOk.mono _ _ _
   | exact impl_Find.mono _ _ _ _
   | exact impl_Held.mono _ _ _ _
   | exact spec_DrawCurve.mono _ _
   | exact LeO.none _
   | refine LeO.ite ?_ ?_
   | refine LeO.bind ?_ (fun _ => ?_)
  ·intro y0 y1 y2 y3 y4 y5 y6
   unfold laws_FnTables.j5
   repeat' first
   | (with_reducible exact q7 _ _ _ _ _ _)
   | (with_reducible exact q8 _ _ _ _ _ _)
   | (with_reducible exact q9 _ _ _ _ _ _ _)
   | (with_reducible exact s0 _ _ _ _ _ _ _)
   | (with_reducible exact s1 _ _ _ _ _ _ _ _)
   | (with_reducible exact s2 _ _ _ _ _ _ _)
   | (with_reducible exact s3 _ _ _)
   | (with_reducible exact impl_At.mono _ _ _ _)
   | (with_reducible exact impl_CurveOk.mono _ _ _)
   | (with_reducible exact impl_Find.mono _ _ _ _)
   | (with_reducible exact impl_Held.mono _ _ _ _)
   | (with_reducible exact spec_DrawCurve.mono _ _)
   | (with_reducible exact LeO.refl _)
   | (with_reducible exact LeO.none _)
   | (with_reducible refine LeO.ite ?_ ?_)
   | (with_reducible refine LeO.bind ?_ (fun _ => ?_))
   | exact q7 _ _ _ _ _ _
   | exact q8 _ _ _ _ _ _
   | exact q9 _ _ _ _ _ _ _
   | exact s0 _ _ _ _ _ _ _
   | exact s1 _ _ _ _ _ _ _ _
   | exact s2 _ _ _ _ _ _ _
   | exact s3 _ _ _
   | exact impl_At.mono _ _ _ _
   | exact impl_CurveOk.mono _ _ _
   | exact impl_Find.mono _ _ _ _
   | exact impl_Held.mono _ _ _ _
   | exact spec_DrawCurve.mono _ _
   | exact LeO.none _
   | refine LeO.ite ?_ ?_
   | refine LeO.bind ?_ (fun _ => ?_)
  ·intro y0 y1 y2
   unfold laws_FnTables.j6
   repeat' first
   | (with_reducible exact q7 _ _ _ _ _ _)
   | (with_reducible exact q8 _ _ _ _ _ _)
   | (with_reducible exact q9 _ _ _ _ _ _ _)
   | (with_reducible exact s0 _ _ _ _ _ _ _)
   | (with_reducible exact s1 _ _ _ _ _ _ _ _)
   | (with_reducible exact s2 _ _ _ _ _ _ _)
   | (with_reducible exact s3 _ _ _)
   | (with_reducible exact impl_At.mono _ _ _ _)
   | (with_reducible exact impl_CurveOk.mono _ _ _)
   | (with_reducible exact impl_Find.mono _ _ _ _)
   | (with_reducible exact impl_Held.mono _ _ _ _)
   | (with_reducible exact spec_DrawCurve.mono _ _)
   | (with_reducible exact LeO.refl _)
   | (with_reducible exact LeO.none _)
   | (with_reducible refine LeO.ite ?_ ?_)
   | (with_reducible refine LeO.bind ?_ (fun _ => ?_))
   | exact q7 _ _ _ _ _ _
   | exact q8 _ _ _ _ _ _
   | exact q9 _ _ _ _ _ _ _
   | exact s0 _ _ _ _ _ _ _
   | exact s1 _ _ _ _ _ _ _ _
   | exact s2 _ _ _ _ _ _ _
   | exact s3 _ _ _
   | exact impl_At.mono _ _ _ _
   | exact impl_CurveOk.mono _ _ _
   | exact impl_Find.mono _ _ _ _
   | exact impl_Held.mono _ _ _ _
   | exact spec_DrawCurve.mono _ _
   | exact LeO.none _
   | refine LeO.ite ?_ ?_
   | refine LeO.bind ?_ (fun _ => ?_)
theorem laws_FnTables.mono : ∀ a0 k, LeO (laws_FnTables.f k a0) (laws_FnTables.f (k + 1) a0) := by
 intro a0 k
 obtain ⟨q7, q8, q9, s0, s1, s2, s3⟩ := laws_FnTables.mono_l k
 unfold laws_FnTables.f
 repeat' first
   | (with_reducible exact q7 _ _ _ _ _ _)
   | (with_reducible exact q8 _ _ _ _ _ _)
   | (with_reducible exact q9 _ _ _ _ _ _ _)
   | (with_reducible exact s0 _ _ _ _ _ _ _)
   | (with_reducible exact s1 _ _ _ _ _ _ _ _)
   | (with_reducible exact s2 _ _ _ _ _ _ _)
   | (with_reducible exact s3 _ _ _)
   | (with_reducible exact impl_At.mono _ _ _ _)
   | (with_reducible exact impl_CurveOk.mono _ _ _)
   | (with_reducible exact impl_Find.mono _ _ _ _)
   | (with_reducible exact impl_Held.mono _ _ _ _)
   | (with_reducible exact spec_DrawCurve.mono _ _)
   | (with_reducible exact LeO.refl _)
   | (with_reducible exact LeO.none _)
   | (with_reducible refine LeO.ite ?_ ?_)
   | (with_reducible refine LeO.bind ?_ (fun _ => ?_))
   | exact q7 _ _ _ _ _ _
   | exact q8 _ _ _ _ _ _
   | exact q9 _ _ _ _ _ _ _
   | exact s0 _ _ _ _ _ _ _
   | exact s1 _ _ _ _ _ _ _ _
   | exact s2 _ _ _ _ _ _ _
   | exact s3 _ _ _
   | exact impl_At.mono _ _ _ _
   | exact impl_CurveOk.mono _ _ _
   | exact impl_Find.mono _ _ _ _
   | exact impl_Held.mono _ _ _ _
   | exact spec_DrawCurve.mono _ _
   | exact LeO.none _
   | refine LeO.ite ?_ ?_
   | refine LeO.bind ?_ (fun _ => ?_)
def laws_FnTables.T10 : Bool × List (List Nat × List Nat) := (true, [([], []), ([], []), ([1], [1]), ([], []), ([2, 3], [2, 3]), ([4], [4]), ([0, 5], [0, 5]), ([6], [6]), ([7], [7]), ([7], [7]), ([], []), ([10, 8, 6, 0, 1, 2, 3, 4, 5, 6, 7, 8, 10], [8, 10]), ([9, 11, 0, 1, 2, 3, 4, 5, 6, 7, 8, 9, 10, 11], [9])])
def laws_FnTables.B10 : List Nat := [0, 0, 2, 0, 14, 30, 63, 127, 255, 255, 0, 1535, 4095]
theorem laws_FnTables.tab10 : rtab .any (opsOf Try.f6 10) = laws_FnTables.T10 := by kernel_rfl
theorem laws_FnTables.bits10 : waitsOk laws_FnTables.T10.2 laws_FnTables.B10 = true := by kernel_rfl
def laws_FnTables.T11 : Bool × List (List Nat × List Nat) := (true, [([], []), ([0], [0]), ([1], [1]), ([2], [2]), ([3, 2], [2, 3]), ([4, 2], [2, 4]), ([2, 5], [2, 5]), ([6, 2], [6]), ([7], [7]), ([8, 7], [7, 8]), ([7], [7]), ([10, 7], [7, 10]), ([7], [7]), ([11, 12, 7], [7, 11, 12]), ([13, 7], [7, 13]), ([9, 14, 7], [7, 9, 14]), ([7, 15], [7, 15])])
def laws_FnTables.B11 : List Nat := [0, 1, 3, 7, 15, 31, 63, 127, 255, 511, 255, 1279, 255, 7423, 15615, 32767, 65535]
theorem laws_FnTables.tab11 : rtab .any (opsOf Try.f6 11) = laws_FnTables.T11 := by kernel_rfl
theorem laws_FnTables.bits11 : waitsOk laws_FnTables.T11.2 laws_FnTables.B11 = true := by kernel_rfl
def laws_FnTables.T14 : Bool × List (List Nat × List Nat) := (true, [([], []), ([0], [0]), ([], []), ([2], [2]), ([1, 3], [1, 3]), ([4], [4]), ([], []), ([6], [6]), ([], []), ([7, 8], [7, 8]), ([9], [9]), ([5, 0, 1, 2, 3, 4, 5], [5]), ([10, 11, 0, 1, 2, 3, 4, 5, 6, 7, 8, 9, 10, 11], [10])])
def laws_FnTables.B14 : List Nat := [0, 1, 0, 4, 15, 31, 0, 64, 0, 448, 960, 63, 4095]
theorem laws_FnTables.tab14 : rtab .any (opsOf Try.f6 14) = laws_FnTables.T14 := by kernel_rfl
theorem laws_FnTables.bits14 : waitsOk laws_FnTables.T14.2 laws_FnTables.B14 = true := by kernel_rfl
def laws_FnTables.T19 : Bool × List (List Nat × List Nat) := (true, [([], []), ([], []), ([1], [1]), ([2], [2]), ([3], [3]), ([4], [4]), ([0, 5], [0, 5]), ([6], [6]), ([7], [7]), ([7], [7]), ([], []), ([10, 8, 6, 0, 1, 2, 3, 4, 5, 6, 7, 8, 10], [8, 10]), ([9, 11, 0, 1, 2, 3, 4, 5, 6, 7, 8, 9, 10, 11], [9])])
def laws_FnTables.B19 : List Nat := [0, 0, 2, 6, 14, 30, 63, 127, 255, 255, 0, 1535, 4095]
theorem laws_FnTables.tab19 : rtab .any (opsOf Try.f6 19) = laws_FnTables.T19 := by kernel_rfl
theorem laws_FnTables.bits19 : waitsOk laws_FnTables.T19.2 laws_FnTables.B19 = true := by kernel_rfl
def laws_FnTables.T20 : Bool × List (List Nat × List Nat) := (true, [([], []), ([0], [0]), ([], []), ([2], [2]), ([3], [3]), ([4], [4]), ([1, 5], [1, 5]), ([6], [6]), ([7], [7]), ([8, 7], [7, 8]), ([9, 7], [7, 9]), ([7, 10], [7, 10])])
def laws_FnTables.B20 : List Nat := [0, 1, 0, 4, 12, 28, 63, 127, 255, 511, 1023, 2047]
theorem laws_FnTables.tab20 : rtab .any (opsOf Try.f6 20) = laws_FnTables.T20 := by kernel_rfl
theorem laws_FnTables.bits20 : waitsOk laws_FnTables.T20.2 laws_FnTables.B20 = true := by kernel_rfl
def laws_FnTables.T22 : Bool × List (List Nat × List Nat) := (true, [([], []), ([], []), ([1], [1]), ([], []), ([3], [3]), ([4], [4]), ([5], [5]), ([2, 6], [2, 6]), ([7], [7]), ([0, 8], [0, 8]), ([9], [9]), ([10], [10]), ([10], [10]), ([11, 9, 0, 1, 2, 3, 4, 5, 6, 7, 8, 9, 10, 11], [11]), ([12, 13, 0, 1, 2, 3, 4, 5, 6, 7, 8, 9, 10, 11, 12, 13], [12])])
def laws_FnTables.B22 : List Nat := [0, 0, 2, 0, 8, 24, 56, 126, 254, 511, 1023, 2047, 2047, 4095, 16383]
theorem laws_FnTables.tab22 : rtab .any (opsOf Try.f6 22) = laws_FnTables.T22 := by kernel_rfl
theorem laws_FnTables.bits22 : waitsOk laws_FnTables.T22.2 laws_FnTables.B22 = true := by kernel_rfl
def laws_FnTables.T27 : Bool × List (List Nat × List Nat) := (true, [([], []), ([0], [0]), ([], []), ([2], [2]), ([], []), ([4], [4]), ([5], [5]), ([6], [6]), ([3, 7], [3, 7]), ([8], [8]), ([], []), ([10], [10]), ([9, 11], [9, 11]), ([1, 12], [1, 12]), ([13], [13]), ([14], [14]), ([15, 14], [14, 15]), ([16, 14, 14], [14, 16]), ([17], [17]), ([18, 17], [17, 18]), ([17], [17]), ([20, 17], [17, 20]), ([17], [17]), ([22, 17], [17, 22]), ([23, 17], [17, 23]), ([24, 17], [17, 24]), ([21, 25, 17], [17, 21, 25]), ([26, 17], [17, 26]), ([17], [17]), ([28, 17], [17, 28]), ([27, 29, 17], [17, 27, 29]), ([19, 30, 17], [17, 19, 30]), ([17, 31, 14], [14, 17, 31]), ([14, 32], [14, 32]), ([33, 17, 0, 1, 2, 3, 4, 5, 6, 7, 8, 9, 10, 11, 12, 13, 14, 15, 16, 17, 18, 19, 20, 21, 22, 23, 24, 25, 26, 27, 28, 29, 30, 31, 32, 33], [33])])
def laws_FnTables.B27 : List Nat := [0, 1, 0, 4, 0, 16, 48, 112, 252, 508, 0, 1024, 4092, 8191, 16383, 32767, 65535, 131071, 262143, 524287, 262143, 1310719, 262143, 4456447, 12845055, 29622271, 66322431, 133431295, 262143, 268697599, 1072955391, 2147483647, 4294967295, 8589934591, 17179869183]
theorem laws_FnTables.tab27 : rtab .any (opsOf Try.f6 27) = laws_FnTables.T27 := by kernel_rfl
theorem laws_FnTables.bits27 : waitsOk laws_FnTables.T27.2 laws_FnTables.B27 = true := by kernel_rfl
set_option maxHeartbeats 8000000 in
set_option maxRecDepth 100000 in
theorem laws_FnTables.calls (k : Nat) (A0 : Option Addr) (c0 : Nat) (l0 : List Int) (r : Bool) (w : World) (hr0 : Kd.C (Kd.int .u8) w A0 l0.length l0) (hc0 : l0.length ≤ c0) (h : laws_FnTables.f k l0 = some r) :
  Calls Try.prog 6 #[.slice A0 l0.length c0] w fun e w' => e = .returned (.bool r) ∧ Below w.heap.size w w' := by
 have ai8 := Try.underlying51
 have ai9 := Try.underlying48
 have HR0 := mk_ hr0; have HC0 := mk_ hc0; clear hr0 hc0; have HB := mk_ (Below.refl w.heap.size w)
 have H : ((laws_big.f l0).bind fun C4 => (if C4 = true then (some true) else ((spec_DrawCurve.f k l0).bind fun h9 => ((impl_At.f k h9.1 h9.2.1 h9.2.2).bind fun n0 => (if n0.2.2 = true then ((impl_CurveOk.f k h9.1 h9.2.1).bind fun C5 => (if C5 = true then (laws_FnTables.j0 k h9.2.2 (decide (n0.2.1 < 1)) h9.1 h9.2.1 n0.1 n0.2.1) else (laws_FnTables.j0 k h9.2.2 true h9.1 h9.2.1 n0.1 n0.2.1))) else (laws_FnTables.j0 k h9.2.2 true h9.1 h9.2.1 n0.1 n0.2.1)))))) = some r := h
 clear h; replace H := Option.bind_eq_some_iff.mp H; obtain ⟨C4, A20, H⟩ := H; (try dsimp only at H); have A2 := mk_ A20; clear A20; by_cases c3 : C4 = true
 ·subst c3; rw [if_pos rfl] at H
  obtain rfl := Option.some.inj H
  go_enter Try.func6, Try.ntmps6
  go_wp2_with (first | ((with_reducible refine gc_ 30 rfl ?_); refine gl_ (some 21) rfl Try.func30 #[.slice A0 l0.length c0] ?_; (with_reducible refine (laws_big.calls _ _ l0 true _ ?g8 ?g9 A2.out).mono ?_); (case g8 => exact cw_ HR0.out); (case g9 => exact HC0.out); rintro e w' ⟨rfl, ⟨nd, rfl⟩⟩; refine ⟨_, rfl, ?_⟩))
  go_ret
  exact ⟨re_, hw_ HB⟩
 ·replace c3 := Bool.eq_false_iff.mpr c3; subst c3; rw [if_neg (show ¬ (false = true) by decide)] at H; replace H := Option.bind_eq_some_iff.mp H; obtain ⟨⟨a7, a6, o0⟩, A40, H⟩ := H; (try dsimp only at H); have A4 := mk_ A40; clear A40; replace H := Option.bind_eq_some_iff.mp H; obtain ⟨⟨l1, l4, J0⟩, A50, H⟩ := H; (try dsimp only at H); have A5 := mk_ A50; clear A50; have HC6 := mk_ H; clear H
  go_enter Try.func6, Try.ntmps6
  go_upto_region 5 with (first | ((with_reducible refine gc_ 30 rfl ?_); refine gl_ (some 21) rfl Try.func30 #[.slice A0 l0.length c0] ?_; (with_reducible refine (laws_big.calls _ _ l0 false _ ?g8 ?g9 A2.out).mono ?_); (case g8 => exact cw_ HR0.out); (case g9 => exact HC0.out); rintro e w' ⟨rfl, ⟨nd, rfl⟩⟩; refine ⟨_, rfl, ?_⟩) | ((with_reducible refine gc_ 31 rfl ?_); refine gl_ (some 24) rfl Try.func31 #[.slice A0 l0.length c0] ?_; (with_reducible refine (spec_DrawCurve.calls k _ _ l0 a7 a6 o0 _ ?g8 ?g9 A4.out).mono ?_); (case g8 => exact cw_ HR0.out); (case g9 => exact HC0.out); rintro e w7 ⟨v277, v280, rfl, ho0, ho1, hb⟩; refine ⟨_, rfl, ?_⟩; have m1 := mk_ (Kd.R_lower ho0 (below_size (hw_ HB))); have m2 := mk_ (Kd.R_lower ho1 (below_size (hw_ HB))); replace HB := hk_ HB hb; (try clear hb); (try clear A7); (try clear hk); (try clear hi); (try clear ho0); (try clear ho1)) | ((with_reducible refine gd_ 3 rfl ?_); (try (refine gate_guard (by rfl) ?_; dsimp only)); refine box_event ?hg (N := 3) ?hd (cs := #[.slice none 0 0, .slice none 0 0]) (t := 51) ?hr ?_; (case hd => rfl); (case hg => rfl); (case hr => exact hr_); intro c4 hg w8 hbox hb; replace m1 := rb_ m1 hb; replace m2 := rb_ m2 hb; have a3 := mk_ (hbox); have J1 := gb_ hg HB; replace HB := bp_ HB hb; have J2 := J1; clear hb hbox hg; obtain ⟨q5, h7, eo9⟩ := Kd.R_slice m1.out; subst eo9; have R1 := bc0_ a3; have R2 := bc1_ a3; have R3 := bf_ a3 0; have R4 := bf_ a3 1; obtain ⟨h8, c5, ab4⟩ := Kd.R_slice m2.out; subst ab4) | ((with_reducible refine gc_ 27 rfl ?_); refine gl_ (some 30) rfl Try.func27 #[.agg #[.slice q5 a7.length h7, .slice h8 a6.length c5], .int .i64 o0] ?_; (with_reducible refine (impl_At.calls k _ _ a7 _ _ a6 o0 l1 l4 J0 _ ?g8 ?g9 ?j1 ?j7 A5.out).mono ?_); (case g8 => refine (Kd.R_reads' (e := 3) (base := w.heap.size) (ok := fun k_ => some k_ ≠ (.slice h8 a6.length c5 : Value).ownBlock) (n := a7.length) (c := h7) ?_).2.2; exact (by (with_reducible repeat (first | apply Kd.R_alloc | apply Kd.R_drewN | apply Kd.R_drew)); exact (Kd.R_mono (Kd.R_far (p := ⟨c4, 1, none⟩) (Kd.R_far (p := ⟨c4, 0, none⟩) (Kd.R_types m1.out a3.out (by decide)) (fun _ hk => hk.2) (.slice q5 a7.length h7)) (fun _ hk => hk.2) (.slice h8 a6.length c5)) (fun _ h_ => h_.1)))); (case g9 => exact (Kd.R_reads' m1.out).2.1); (case j1 => refine (Kd.R_reads' (e := 3) (base := w.heap.size) (ok := fun k_ => some k_ ≠ (.slice q5 a7.length h7 : Value).ownBlock) (n := a6.length) (c := c5) ?_).2.2; exact (by (with_reducible repeat (first | apply Kd.R_alloc | apply Kd.R_drewN | apply Kd.R_drew)); exact (Kd.R_mono (Kd.R_far (p := ⟨c4, 1, none⟩) (Kd.R_far (p := ⟨c4, 0, none⟩) (Kd.R_types m2.out a3.out (by decide)) (fun _ hk => hk.2) (.slice q5 a7.length h7)) (fun _ hk => hk.2) (.slice h8 a6.length c5)) (fun _ h_ => h_.1)))); (case j7 => exact (Kd.R_reads' m2.out).2.1); rintro e w12 ⟨rfl, hb⟩; refine ⟨_, rfl, ?_⟩; replace m1 := mk_ (Kd.R_below (by (with_reducible repeat (first | apply Kd.R_alloc | apply Kd.R_drewN | apply Kd.R_drew)); exact (Kd.R_mono (Kd.R_far (p := ⟨c4, 1, none⟩) (Kd.R_far (p := ⟨c4, 0, none⟩) (Kd.R_types m1.out a3.out (by decide)) (fun _ hk => hk.2) (.slice q5 a7.length h7)) (fun _ hk => hk.2) (.slice h8 a6.length c5)) (fun _ h_ => h_.1))) hb); replace m2 := mk_ (Kd.R_below (by (with_reducible repeat (first | apply Kd.R_alloc | apply Kd.R_drewN | apply Kd.R_drew)); exact (Kd.R_mono (Kd.R_far (p := ⟨c4, 1, none⟩) (Kd.R_far (p := ⟨c4, 0, none⟩) (Kd.R_types m2.out a3.out (by decide)) (fun _ hk => hk.2) (.slice q5 a7.length h7)) (fun _ hk => hk.2) (.slice h8 a6.length c5)) (fun _ h_ => h_.1))) hb); replace a3 := mk_ (blk_below (g := c4) (o := .cells #[.slice q5 a7.length h7, .slice h8 a6.length c5] 51 (0, 0)) (by (with_reducible repeat (first | refine blk_drewN ?_ _ | refine blk_drew ?_ | refine blk_alloc ?_ _)); refine blk_put (cs := #[.slice q5 a7.length h7, .slice none 0 0]) ?_ 1 _ rfl; (with_reducible repeat (first | refine blk_drewN ?_ _ | refine blk_drew ?_ | refine blk_alloc ?_ _)); refine blk_put (cs := #[.slice none 0 0, .slice none 0 0]) ?_ 0 _ rfl; (with_reducible repeat (first | refine blk_drewN ?_ _ | refine blk_drew ?_ | refine blk_alloc ?_ _)); exact a3.out) hb); replace HB := mk_ (below_step (by repeat (first | (with_reducible first | exact HB.out | apply below_alloc | apply pw_below_drewN | apply below_drew1 | refine below_set ?_ J2.out) | exact HB.out)) hb); (try clear hb); (try clear A7); (try clear hk); (try clear hi)) | ((with_reducible refine gd_ 5 rfl ?_); (try (refine gate_guard (by rfl) ?_; dsimp only)); refine box_event ?hg (N := 5) ?hd (cs := #[.int .i64 0, .int .i64 0]) (t := 48) ?hr ?_; (case hd => rfl); (case hg => rfl); (case hr => exact hr_); intro h3 hg w13 hbox hb; replace m1 := rb_ m1 hb; replace m2 := rb_ m2 hb; have a8 := mk_ (hbox); have J3 := gb_ hg HB; replace HB := bp_ HB hb; have C6 := J3; have g3 := nb_ hg a3; replace a3 := bl_ a3 hb; have l5 := ns_ g3; clear hb hbox hg; have ae6 := l5.out; have ae7 := g3.out; have R5 := bc0_ a8; have R6 := bc1_ a8; have R7 := bf_ a8 0; have R8 := bf_ a8 1))
  (try simp only [Act.put, List.setIfInBounds_toArray, List.set_cons_zero, List.set_cons_succ])
  go_cut [44] (fun v44 wc => ∃ (kq : Nat) (B7 : Bool), v44 = .bool B7 ∧ Aside0 (laws_FnTables.j0 kq o0 B7 a7 a6 l1 l4 = some r) ∧ Aside0 (kq ≤ k) ∧ Aside0 (Kd.R (Kd.int .i64) 3 wc w.heap.size (fun k_ => some k_ ≠ ((.slice h8 a6.length c5) : Value).ownBlock) (.slice q5 a7.length h7) a7) ∧ Aside0 (Kd.R (Kd.int .i64) 3 wc w.heap.size (fun k_ => some k_ ≠ ((.slice q5 a7.length h7) : Value).ownBlock) (.slice h8 a6.length c5) a6) ∧ Aside0 (wc.heap[c4]? = some (.cells #[(.slice q5 a7.length h7), (.slice h8 a6.length c5)] 51 (0, 0))) ∧ Aside0 (wc.heap[h3]? = some (.cells #[.int .i64 l1, .int .i64 l4] 48 (0, 0))) ∧ Aside0 (Below w.heap.size w wc))
  case first => as_aux_lemma =>
   have H := HC6.out; clear HC6; by_cases R9 : J0 = true
   ·subst R9; rw [if_pos rfl] at H
    replace H := Option.bind_eq_some_iff.mp H; obtain ⟨C5, J4, H⟩ := H
    (try dsimp only at H); have A17 := mk_ J4; clear J4
    by_cases V0 : C5 = true
    ·subst V0; rw [if_pos rfl] at H
     have H' := mk_ H
     clear H; have ae8 := g3.out; have ae9 := l5.out; have V1 := bc0_ a3; have V2 := bc1_ a3; have V3 := bf_ a3 0; have V4 := bf_ a3 1
     go_wp2_with (first | (go_at_call 32; (with_reducible refine (impl_CurveOk.calls k _ _ a7 _ _ a6 true _ ?g8 ?g9 ?j1 ?j7 A17.out).mono ?_); (case g8 => refine (Kd.R_reads' (e := 3) (base := w.heap.size) (ok := fun k_ => some k_ ≠ (.slice h8 a6.length c5 : Value).ownBlock) (n := a7.length) (c := h7) ?_).2.2; exact (by (with_reducible repeat (first | apply Kd.R_alloc | apply Kd.R_drewN | apply Kd.R_drew)); exact (Kd.R_mono (Kd.R_far (p := ⟨h3, 1, none⟩) (Kd.R_far (p := ⟨h3, 0, none⟩) (Kd.R_types m1.out a8.out (by decide)) (fun _ hk => hk.2) (.int .i64 l1)) (fun _ hk => hk.2) (.int .i64 l4)) (fun _ h_ => h_.1)))); (case g9 => exact (Kd.R_reads' m1.out).2.1); (case j1 => refine (Kd.R_reads' (e := 3) (base := w.heap.size) (ok := fun k_ => some k_ ≠ (.slice q5 a7.length h7 : Value).ownBlock) (n := a6.length) (c := c5) ?_).2.2; exact (by (with_reducible repeat (first | apply Kd.R_alloc | apply Kd.R_drewN | apply Kd.R_drew)); exact (Kd.R_mono (Kd.R_far (p := ⟨h3, 1, none⟩) (Kd.R_far (p := ⟨h3, 0, none⟩) (Kd.R_types m2.out a8.out (by decide)) (fun _ hk => hk.2) (.int .i64 l1)) (fun _ hk => hk.2) (.int .i64 l4)) (fun _ h_ => h_.1)))); (case j7 => exact (Kd.R_reads' m2.out).2.1); rintro e w21 ⟨rfl, hb⟩; replace m1 := mk_ (Kd.R_below (by (with_reducible repeat (first | apply Kd.R_alloc | apply Kd.R_drewN | apply Kd.R_drew)); exact (Kd.R_mono (Kd.R_far (p := ⟨h3, 1, none⟩) (Kd.R_far (p := ⟨h3, 0, none⟩) (Kd.R_types m1.out a8.out (by decide)) (fun _ hk => hk.2) (.int .i64 l1)) (fun _ hk => hk.2) (.int .i64 l4)) (fun _ h_ => h_.1))) hb); replace m2 := mk_ (Kd.R_below (by (with_reducible repeat (first | apply Kd.R_alloc | apply Kd.R_drewN | apply Kd.R_drew)); exact (Kd.R_mono (Kd.R_far (p := ⟨h3, 1, none⟩) (Kd.R_far (p := ⟨h3, 0, none⟩) (Kd.R_types m2.out a8.out (by decide)) (fun _ hk => hk.2) (.int .i64 l1)) (fun _ hk => hk.2) (.int .i64 l4)) (fun _ h_ => h_.1))) hb); replace a3 := mk_ (blk_below (g := c4) (o := .cells #[.slice q5 a7.length h7, .slice h8 a6.length c5] 51 (0, 0)) (by (with_reducible repeat (first | refine blk_drewN ?_ _ | refine blk_drew ?_ | refine blk_alloc ?_ _)); refine blk_far ?_ g3.out _; (with_reducible repeat (first | refine blk_drewN ?_ _ | refine blk_drew ?_ | refine blk_alloc ?_ _)); refine blk_far ?_ g3.out _; (with_reducible repeat (first | refine blk_drewN ?_ _ | refine blk_drew ?_ | refine blk_alloc ?_ _)); exact a3.out) hb); replace a8 := mk_ (blk_below (g := h3) (o := .cells #[.int .i64 l1, .int .i64 l4] 48 (0, 0)) (by (with_reducible repeat (first | refine blk_drewN ?_ _ | refine blk_drew ?_ | refine blk_alloc ?_ _)); refine blk_put (cs := #[.int .i64 l1, .int .i64 0]) ?_ 1 _ rfl; (with_reducible repeat (first | refine blk_drewN ?_ _ | refine blk_drew ?_ | refine blk_alloc ?_ _)); refine blk_put (cs := #[.int .i64 0, .int .i64 0]) ?_ 0 _ rfl; (with_reducible repeat (first | refine blk_drewN ?_ _ | refine blk_drew ?_ | refine blk_alloc ?_ _)); exact a8.out) hb); replace HB := mk_ (below_step (by repeat (first | (with_reducible first | exact HB.out | apply below_alloc | apply pw_below_drewN | apply below_drew1 | refine below_set ?_ C6.out) | exact HB.out)) hb); (try clear hb); (try clear A7); (try clear hk); (try clear hi); have V5 := bc0_ a8; have V6 := bc1_ a8; have V7 := bf_ a8 0; have V8 := bf_ a8 1))
     go_meet
     case rel => exact ⟨_, (decide (l4 < 1)), rf_, H', ⟨by first | omega | exact Nat.le_refl _⟩, kw_ m1, kw_ m2, bw_ a3, bw_ a8, ⟨hw_ HB⟩⟩
    ·replace V0 := Bool.eq_false_iff.mpr V0; subst V0; rw [if_neg (show ¬ (false = true) by decide)] at H
     have H' := mk_ H
     clear H; have af0 := g3.out; have af1 := l5.out; have V9 := bc0_ a3; have W0 := bc1_ a3; have W1 := bf_ a3 0; have W2 := bf_ a3 1
     go_wp2_with (first | (go_at_call 32; (with_reducible refine (impl_CurveOk.calls k _ _ a7 _ _ a6 false _ ?g8 ?g9 ?j1 ?j7 A17.out).mono ?_); (case g8 => refine (Kd.R_reads' (e := 3) (base := w.heap.size) (ok := fun k_ => some k_ ≠ (.slice h8 a6.length c5 : Value).ownBlock) (n := a7.length) (c := h7) ?_).2.2; exact (by (with_reducible repeat (first | apply Kd.R_alloc | apply Kd.R_drewN | apply Kd.R_drew)); exact (Kd.R_mono (Kd.R_far (p := ⟨h3, 1, none⟩) (Kd.R_far (p := ⟨h3, 0, none⟩) (Kd.R_types m1.out a8.out (by decide)) (fun _ hk => hk.2) (.int .i64 l1)) (fun _ hk => hk.2) (.int .i64 l4)) (fun _ h_ => h_.1)))); (case g9 => exact (Kd.R_reads' m1.out).2.1); (case j1 => refine (Kd.R_reads' (e := 3) (base := w.heap.size) (ok := fun k_ => some k_ ≠ (.slice q5 a7.length h7 : Value).ownBlock) (n := a6.length) (c := c5) ?_).2.2; exact (by (with_reducible repeat (first | apply Kd.R_alloc | apply Kd.R_drewN | apply Kd.R_drew)); exact (Kd.R_mono (Kd.R_far (p := ⟨h3, 1, none⟩) (Kd.R_far (p := ⟨h3, 0, none⟩) (Kd.R_types m2.out a8.out (by decide)) (fun _ hk => hk.2) (.int .i64 l1)) (fun _ hk => hk.2) (.int .i64 l4)) (fun _ h_ => h_.1)))); (case j7 => exact (Kd.R_reads' m2.out).2.1); rintro e w25 ⟨rfl, hb⟩; replace m1 := mk_ (Kd.R_below (by (with_reducible repeat (first | apply Kd.R_alloc | apply Kd.R_drewN | apply Kd.R_drew)); exact (Kd.R_mono (Kd.R_far (p := ⟨h3, 1, none⟩) (Kd.R_far (p := ⟨h3, 0, none⟩) (Kd.R_types m1.out a8.out (by decide)) (fun _ hk => hk.2) (.int .i64 l1)) (fun _ hk => hk.2) (.int .i64 l4)) (fun _ h_ => h_.1))) hb); replace m2 := mk_ (Kd.R_below (by (with_reducible repeat (first | apply Kd.R_alloc | apply Kd.R_drewN | apply Kd.R_drew)); exact (Kd.R_mono (Kd.R_far (p := ⟨h3, 1, none⟩) (Kd.R_far (p := ⟨h3, 0, none⟩) (Kd.R_types m2.out a8.out (by decide)) (fun _ hk => hk.2) (.int .i64 l1)) (fun _ hk => hk.2) (.int .i64 l4)) (fun _ h_ => h_.1))) hb); replace a3 := mk_ (blk_below (g := c4) (o := .cells #[.slice q5 a7.length h7, .slice h8 a6.length c5] 51 (0, 0)) (by (with_reducible repeat (first | refine blk_drewN ?_ _ | refine blk_drew ?_ | refine blk_alloc ?_ _)); refine blk_far ?_ g3.out _; (with_reducible repeat (first | refine blk_drewN ?_ _ | refine blk_drew ?_ | refine blk_alloc ?_ _)); refine blk_far ?_ g3.out _; (with_reducible repeat (first | refine blk_drewN ?_ _ | refine blk_drew ?_ | refine blk_alloc ?_ _)); exact a3.out) hb); replace a8 := mk_ (blk_below (g := h3) (o := .cells #[.int .i64 l1, .int .i64 l4] 48 (0, 0)) (by (with_reducible repeat (first | refine blk_drewN ?_ _ | refine blk_drew ?_ | refine blk_alloc ?_ _)); refine blk_put (cs := #[.int .i64 l1, .int .i64 0]) ?_ 1 _ rfl; (with_reducible repeat (first | refine blk_drewN ?_ _ | refine blk_drew ?_ | refine blk_alloc ?_ _)); refine blk_put (cs := #[.int .i64 0, .int .i64 0]) ?_ 0 _ rfl; (with_reducible repeat (first | refine blk_drewN ?_ _ | refine blk_drew ?_ | refine blk_alloc ?_ _)); exact a8.out) hb); replace HB := mk_ (below_step (by repeat (first | (with_reducible first | exact HB.out | apply below_alloc | apply pw_below_drewN | apply below_drew1 | refine below_set ?_ C6.out) | exact HB.out)) hb); (try clear hb); (try clear A7); (try clear hk); (try clear hi)))
     go_meet
     case rel => exact ⟨_, (true), rf_, H', ⟨by first | omega | exact Nat.le_refl _⟩, kw_ m1, kw_ m2, bw_ a3, bw_ a8, ⟨hw_ HB⟩⟩
   ·replace R9 := Bool.eq_false_iff.mpr R9; subst R9; rw [if_neg (show ¬ (false = true) by decide)] at H
    have H' := mk_ H
    clear H; go_wp2; go_meet
    case rel => exact ⟨_, (true), rf_, H', ⟨by first | omega | exact Nat.le_refl _⟩, ⟨by (with_reducible repeat (first | apply Kd.R_alloc | apply Kd.R_drewN | apply Kd.R_drew)); exact Kd.R_mono (Kd.R_far (p := ⟨h3, 1, none⟩) (Kd.R_far (p := ⟨h3, 0, none⟩) (Kd.R_types m1.out a8.out (by decide)) (fun _ hk => hk.2) (.int .i64 l1)) (fun _ hk => hk.2) (.int .i64 l4)) (fun _ hk => hk.1)⟩, ⟨by (with_reducible repeat (first | apply Kd.R_alloc | apply Kd.R_drewN | apply Kd.R_drew)); exact Kd.R_mono (Kd.R_far (p := ⟨h3, 1, none⟩) (Kd.R_far (p := ⟨h3, 0, none⟩) (Kd.R_types m2.out a8.out (by decide)) (fun _ hk => hk.2) (.int .i64 l1)) (fun _ hk => hk.2) (.int .i64 l4)) (fun _ hk => hk.1)⟩, ⟨by (with_reducible repeat (first | refine blk_drewN ?_ _ | refine blk_drew ?_ | refine blk_alloc ?_ _)); refine blk_far ?_ g3.out _; (with_reducible repeat (first | refine blk_drewN ?_ _ | refine blk_drew ?_ | refine blk_alloc ?_ _)); refine blk_far ?_ g3.out _; (with_reducible repeat (first | refine blk_drewN ?_ _ | refine blk_drew ?_ | refine blk_alloc ?_ _)); exact a3.out⟩, ⟨by (with_reducible repeat (first | refine blk_drewN ?_ _ | refine blk_drew ?_ | refine blk_alloc ?_ _)); refine blk_put (cs := #[.int .i64 l1, .int .i64 0]) ?_ 1 _ rfl; (with_reducible repeat (first | refine blk_drewN ?_ _ | refine blk_drew ?_ | refine blk_alloc ?_ _)); refine blk_put (cs := #[.int .i64 0, .int .i64 0]) ?_ 0 _ rfl; (with_reducible repeat (first | refine blk_drewN ?_ _ | refine blk_drew ?_ | refine blk_alloc ?_ _)); exact a8.out⟩, ⟨by repeat (first | (with_reducible first | exact HB.out | apply below_alloc | apply pw_below_drewN | apply below_drew1 | refine below_set ?_ C6.out) | exact HB.out)⟩⟩
  case rest => as_aux_lemma =>
   clear HC6; (try clear c3)
   obtain ⟨kq, B7, rfl, HA, A3, a2, a1, a3, a8, HB⟩ := hcut
   cases kq with
   | zero => exact absurd HA.out (by simp [laws_FnTables.j0])
   | succ kj5 =>
    have H := HA.out; clear HA
    simp only [laws_FnTables.j0] at H
    by_cases J5 : B7 = true
    ·subst J5; rw [if_pos rfl] at H
     obtain rfl := Option.some.inj H; go_wp2
     go_ret
     exact ⟨re_, hw_ HB⟩
    ·replace J5 := Bool.eq_false_iff.mpr J5; subst J5; rw [if_neg (show ¬ (false = true) by decide)] at H
     have H' := mk_ H
     clear H; go_wp2
     go_loopg [7] kj5 (fun kq v7 w' => ∃ (c9 : Int), v7 = .int .i64 c9 ∧ Aside0 (laws_FnTables.l0 kq o0 c9 a7 a6 l1 l4 = some r) ∧ Aside0 (kq ≤ kj5) ∧ Aside0 (Kd.R (Kd.int .i64) 3 w' w.heap.size (fun k_ => some k_ ≠ ((.slice h8 a6.length c5) : Value).ownBlock) (.slice q5 a7.length h7) a7) ∧ Aside0 (Kd.R (Kd.int .i64) 3 w' w.heap.size (fun k_ => some k_ ≠ ((.slice q5 a7.length h7) : Value).ownBlock) (.slice h8 a6.length c5) a6) ∧ Aside0 (w'.heap[c4]? = some (.cells #[(.slice q5 a7.length h7), (.slice h8 a6.length c5)] 51 (0, 0))) ∧ Aside0 (w'.heap[h3]? = some (.cells #[.int .i64 l1, .int .i64 l4] 48 (0, 0))) ∧ Aside0 (Below w.heap.size w w'))
     case atStart => exact ⟨(0), rf_, H', ⟨Nat.le_refl _⟩, kw_ a2, kw_ a1, bw_ a3, bw_ a8, ⟨hw_ HB⟩⟩
     case round => as_aux_lemma =>
      clear H'; (try clear c3); (try clear J5)
      obtain ⟨c9, rfl, HA, A6, a2, a1, a3, a8, HB⟩ := hrel
      cases gk with
      | zero => exact absurd HA.out (by simp [laws_FnTables.l0])
      | succ k2 =>
       have H := HA.out; clear HA
       simp only [laws_FnTables.l0] at H
       by_cases I0 : c9 < (a7.length : Int)
       ·rw [if_pos I0] at H; have J6 : decide (c9 < (a7.length : Int)) = true := decide_eq_true I0; clear I0; by_cases W3 : 0 ≤ c9
        ·rw [if_pos W3] at H; have af2 : decide (0 ≤ c9) = true := decide_eq_true W3; clear W3; replace H := Option.bind_eq_some_iff.mp H; obtain ⟨⟨n2, m6, o1⟩, J7, H⟩ := H; (try dsimp only at H); have A29 := mk_ J7; clear J7; have F7 := mk_ H; clear H; have af3 := g3.out; have af4 := l5.out; have W4 := bc0_ a3; have W5 := bc1_ a3; have W6 := bf_ a3 0; have W7 := bf_ a3 1
         try go_wp2
         replace a2 := dR_ a2; replace a1 := dR_ a1; replace a3 := dB_ a3; replace a8 := dB_ a8; replace HB := dH_ HB
         have E0 : 0 ≤ (c9 : Int) := od_
         have E1 : c9 < (a7.length : Int) := od_
         obtain ⟨g6, ab5, E2⟩ := Kd.at_int (rr_ a2) c9 E0 E1; cases ab5; replace E0 := eq_true E0; replace E1 := eq_true E1
         refine start_ (n := 13) (S := fun w' => True) (ds := []) (bs_ 13 0) (by kernel_rfl) rfl rfl trivial (fun hHeld => ?_); refine with_tabW laws_FnTables.tab10 laws_FnTables.bits10 (fun HT_ HW_ => ?_)
         generalize wr.drew = w33 at a2 a1 a3 a8 HB E2 hHeld ⊢
         refine pu_ HT_ 1 54 (bs_ 13 2) ?_; refine pu_ HT_ 3 56 (bs_ 13 10) ?_
         refine inv_at [0, 2, 4, 5, 6, 7, 8, 9, 10, 11, 12] (fun a0_ b a w' => ∃ (d1 : Nat) (g5 : Value), a = putSel a0_ b [(0, 53, .agg #[.slice (some g6) a7.length h7, .slice h8 a6.length c5]), (2, 55, .slice (some g6) a7.length h7), (4, 57, .pointer (some (g6.add (c9).toNat))), (5, 58, .int .i64 (rd a7 c9)), (6, 59, .tuple #[.agg #[.int .i64 n2, .int .i64 m6], .bool o1]), (7, 52, .tuple #[.agg #[.int .i64 n2, .int .i64 m6], .bool o1]), (8, 60, .agg #[.int .i64 n2, .int .i64 m6]), (9, 61, .bool o1), (10, 8, g5), (12, 9, .bool o1)] ∧ (Kd.R (Kd.int .i64) 3 w' w.heap.size (fun k_ => some k_ ≠ (.slice h8 a6.length c5 : Value).ownBlock) (.slice (some g6) a7.length h7) a7) ∧ (Kd.R (Kd.int .i64) 3 w' w.heap.size (fun k_ => some k_ ≠ (.slice (some g6) a7.length h7 : Value).ownBlock) (.slice h8 a6.length c5) a6) ∧ (w'.heap[c4]? = some (.cells #[.slice (some g6) a7.length h7, .slice h8 a6.length c5] 51 (0, 0))) ∧ (w'.heap[h3]? = some (.cells #[.int .i64 l1, .int .i64 l4] 48 (0, 0))) ∧ (Below w.heap.size w w') ∧ (b 10 = true → b 11 = false → w'.heap[d1]? = some (.cells #[.int .i64 0, .int .i64 0] 48 (0, 0))) ∧ (b 10 = true → w.heap.size ≤ d1) ∧ (b 10 = true → w.heap.size ≤ d1) ∧ (b 10 = true → c4 ≠ d1) ∧ (b 10 = true → d1 ≠ c4) ∧ (b 10 = true → h3 ≠ d1) ∧ (b 10 = true → d1 ≠ h3) ∧ (b 11 = true → w'.heap[d1]? = some (.cells #[.int .i64 n2, .int .i64 m6] 48 (0, 0))) ∧ (b 10 = true → (g5 : Value) = .pointer (some ⟨d1, 0, none⟩))) HT_.out HW_.out (by kernel_rfl) (by kernel_rfl) ?_ ?_ ?_
         ·exact ⟨0, .bool false, by simp only [putSel, Bool.false_eq_true, if_false], a2.out, a1.out, a3.out, a8.out, HB.out, fun h_ => absurd h_ (by decide), fun h_ => absurd h_ (by decide), fun h_ => absurd h_ (by decide), fun h_ => absurd h_ (by decide), fun h_ => absurd h_ (by decide), fun h_ => absurd h_ (by decide), fun h_ => absurd h_ (by decide), fun h_ => absurd h_ (by decide), fun h_ => absurd h_ (by decide)⟩
         ·skip
          clear a3 a8 HB a2 a1
          refine steps_cons ?_ ?_
          ·rintro b a w' ⟨d1, g5, ha, a4, a5, a9, b0, Q_HB, g7, d8, d9, b6, b7, b8, b9, d2, c1⟩ hb_ hon hoff
           refine ⟨_, rfl, fun K hK => ?_⟩
           have e3 : a.tmps[3]? = some (.pointer (some ⟨c4, 0, none⟩)) := by rw [ha]; exact (putSel_off rfl).trans rfl
           replace ha := mk_ ha
           have a2 := mk_ a4; have a1 := mk_ a5; have a3 := mk_ a9; have a8 := mk_ b0; have HB := mk_ Q_HB
           have hc0_ : w'.cell? ⟨c4, 0, none⟩ = some (.slice (some g6) a7.length h7) := bc0_ a3
           have hc1_ : w'.cell? ⟨c4, 1, none⟩ = some (.slice h8 a6.length c5) := bc1_ a3
           refine value_ (w1 := w') (v := .agg #[.slice (some g6) a7.length h7, .slice h8 a6.length c5]) (by rfl) rfl ?_ ?_
           ·go_simp
            (try simp only [i64_w])
            try rfl
           refine hK.out _ _ ⟨d1, g5, (by rw [ha.out]; exact putSel_upk 0 hb_ rfl rfl rfl), a4, a5, a9, b0, Q_HB, g7, d8, d9, b6, b7, b8, b9, of_ (hoff 11 (by kernel_rfl)), c1⟩
          refine steps_cons ?_ ?_
          ·rintro b a w' ⟨d1, g5, ha, a4, a5, a9, b0, Q_HB, g7, d8, d9, b6, b7, b8, b9, d2, c1⟩ hb_ hon hoff
           refine ⟨_, rfl, fun K hK => ?_⟩
           have e54 : a.tmps[54]? = some (.pointer (some ⟨c4, 0, none⟩)) := by rw [ha]; exact (putSel_off rfl).trans rfl
           replace ha := mk_ ha
           have a2 := mk_ a4; have a1 := mk_ a5; have a3 := mk_ a9; have a8 := mk_ b0; have HB := mk_ Q_HB
           have hc0_ : w'.cell? ⟨c4, 0, none⟩ = some (.slice (some g6) a7.length h7) := bc0_ a3
           have hc1_ : w'.cell? ⟨c4, 1, none⟩ = some (.slice h8 a6.length c5) := bc1_ a3
           refine value_ (w1 := w') (v := .slice (some g6) a7.length h7) (by rfl) rfl ?_ ?_
           ·go_simp
            (try simp only [i64_w])
            try rfl
           refine hK.out _ _ ⟨d1, g5, (by rw [ha.out]; exact putSel_upk 1 hb_ rfl rfl rfl), a4, a5, a9, b0, Q_HB, g7, d8, d9, b6, b7, b8, b9, of_ (hoff 11 (by kernel_rfl)), c1⟩
          refine steps_cons ?_ ?_
          ·rintro b a w' ⟨d1, g5, ha, a4, a5, a9, b0, Q_HB, g7, d8, d9, b6, b7, b8, b9, d2, c1⟩ hb_ hon hoff
           refine ⟨_, rfl, fun K hK => ?_⟩
           have e55 : a.tmps[55]? = some (.slice (some g6) a7.length h7) := by rw [ha]; exact putSel_on (e := (2, 55, .slice (some g6) a7.length h7)) 1 rfl rfl (hon 2 (by kernel_rfl)) rfl
           have e56 : a.tmps[56]? = some (.int .i64 c9) := by rw [ha]; exact (putSel_off rfl).trans rfl
           replace ha := mk_ ha
           have a2 := mk_ a4; have a1 := mk_ a5; have a3 := mk_ a9; have a8 := mk_ b0; have HB := mk_ Q_HB
           refine value_ (w1 := w') (v := .pointer (some (g6.add (c9).toNat))) (by rfl) rfl ?_ ?_
           ·go_simp
            (try simp only [i64_w])
            try rfl
           refine hK.out _ _ ⟨d1, g5, (by rw [ha.out]; exact putSel_upk 2 hb_ rfl rfl rfl), a4, a5, a9, b0, Q_HB, g7, d8, d9, b6, b7, b8, b9, of_ (hoff 11 (by kernel_rfl)), c1⟩
          refine steps_cons ?_ ?_
          ·rintro b a w' ⟨d1, g5, ha, a4, a5, a9, b0, Q_HB, g7, d8, d9, b6, b7, b8, b9, d2, c1⟩ hb_ hon hoff
           refine ⟨_, rfl, fun K hK => ?_⟩
           have e57 : a.tmps[57]? = some (.pointer (some (g6.add (c9).toNat))) := by rw [ha]; exact putSel_on (e := (4, 57, .pointer (some (g6.add (c9).toNat)))) 2 rfl rfl (hon 4 (by kernel_rfl)) rfl
           replace ha := mk_ ha
           have a2 := mk_ a4; have a1 := mk_ a5; have a3 := mk_ a9; have a8 := mk_ b0; have HB := mk_ Q_HB; obtain ⟨ad289_z, e289_z, hx289_0_z⟩ := Kd.at_int (rr_ a2) c9 (of_eq_true E0) (of_eq_true E1)
           cases e289_z
           have ab6 : w'.cell? (g6.add (c9).toNat) = some (.int .i64 (rd a7 c9)) := (by first | exact hx289_0_z | (have h_ := hx289_0_z; (try simp only [Int.reduceToNat, Nat.zero_mul, Nat.reduceMul, Nat.reduceEqDiff, Go.Addr.add, ↓reduceIte, Addr.add_zero'] at h_); exact h_))
           refine value_ (w1 := w') (v := .int .i64 (rd a7 c9)) (by rfl) rfl ?_ ?_
           ·go_simp
            (try simp only [i64_w])
            try rfl
           refine hK.out _ _ ⟨d1, g5, (by rw [ha.out]; exact putSel_upk 3 hb_ rfl rfl rfl), a4, a5, a9, b0, Q_HB, g7, d8, d9, b6, b7, b8, b9, of_ (hoff 11 (by kernel_rfl)), c1⟩
          refine steps_cons ?_ ?_
          ·rintro b a w' ⟨d1, g5, ha, a4, a5, a9, b0, Q_HB, g7, d8, d9, b6, b7, b8, b9, d2, c1⟩ hb_ hon hoff
           refine ⟨_, rfl, fun K hK => ?_⟩
           have e53 : a.tmps[53]? = some (.agg #[.slice (some g6) a7.length h7, .slice h8 a6.length c5]) := by rw [ha]; exact putSel_on (e := (0, 53, .agg #[.slice (some g6) a7.length h7, .slice h8 a6.length c5])) 0 rfl rfl (hon 0 (by kernel_rfl)) rfl
           have e58 : a.tmps[58]? = some (.int .i64 (rd a7 c9)) := by rw [ha]; exact putSel_on (e := (5, 58, .int .i64 (rd a7 c9))) 3 rfl rfl (hon 5 (by kernel_rfl)) rfl
           replace ha := mk_ ha
           have a2 := mk_ a4; have a1 := mk_ a5; have a3 := mk_ a9; have a8 := mk_ b0; have HB := mk_ Q_HB
           refine goes_ Try.func27 (by kernel_rfl) rfl #[.agg #[.slice (some g6) a7.length h7, .slice h8 a6.length c5], .int .i64 (rd a7 c9)] (by rfl) rfl rfl (by first | (simp only [List.map_toArray, List.map_cons, List.map_nil, Act.eval, Array.getD_eq_getD_getElem?, Option.getD_some, e53, e58]; done) | (simp only [List.map_toArray, List.map_cons, List.map_nil, Act.eval, Array.getD_eq_getD_getElem?, Option.getD_some, e53, e58]; rfl)) ?_
           with_reducible refine (impl_At.calls k2 _ _ a7 _ _ a6 (rd a7 c9) n2 m6 o1 _ ?g8 ?g9 ?j1 ?j7 A29.out).mono ?_
           (case g8 => exact cw_ (rr_ a2))
           (case g9 => exact (Kd.R_reads' a2.out).2.1)
           (case j1 => exact cw_ (rr_ a1))
           (case j7 => exact (Kd.R_reads' a1.out).2.1)
           rintro e w34 ⟨rfl, hb⟩
           refine ⟨_, rfl, ?_⟩
           have s4 := rk_ a2 hb
           have s5 := rk_ a1 hb
           have s6 := bk_ a3 hb
           have s7 := bk_ a8 hb
           have s8 := hk_ HB hb
           have E3 := fun (h0_ : b 10 = true) (C7 : b 11 = false) => (show w34.heap[d1]? = some (.cells #[.int .i64 0, .int .i64 0] 48 (0, 0)) from by first | exact (blk_below (g := d1) (o := .cells #[.int .i64 0, .int .i64 0] 48 (0, 0)) (by (with_reducible repeat (first | refine blk_drewN ?_ _ | refine blk_drew ?_ | refine blk_alloc ?_ _)); exact (g7 h0_ C7)) hb))
           clear a2; clear a1; clear a3; clear a8; clear HB
           have a2 := s4
           have a1 := s5
           have a3 := s6
           have a8 := s7
           have HB := s8
           clear s4 s5 s6 s7 s8; (try clear hb); (try clear A7); (try clear hk); (try clear hi)
           refine hK.out _ _ ⟨d1, g5, (by rw [ha.out]; exact putSel_upk 4 hb_ rfl rfl rfl), (kx_ a2), (kx_ a1), (bx_ a3), (bx_ a8), (hw_ HB), E3, d8, d9, b6, b7, b8, b9, of_ (hoff 11 (by kernel_rfl)), c1⟩
          refine steps_cons ?_ ?_
          ·rintro b a w' ⟨d1, g5, ha, a4, a5, a9, b0, Q_HB, g7, d8, d9, b6, b7, b8, b9, d2, c1⟩ hb_ hon hoff
           refine ⟨_, rfl, fun K hK => ?_⟩
           have e59 : a.tmps[59]? = some (.tuple #[.agg #[.int .i64 n2, .int .i64 m6], .bool o1]) := by rw [ha]; exact putSel_on (e := (6, 59, .tuple #[.agg #[.int .i64 n2, .int .i64 m6], .bool o1])) 4 rfl rfl (hon 6 (by kernel_rfl)) rfl
           replace ha := mk_ ha
           have a2 := mk_ a4; have a1 := mk_ a5; have a3 := mk_ a9; have a8 := mk_ b0; have HB := mk_ Q_HB
           refine value_ (w1 := w') (v := .tuple #[.agg #[.int .i64 n2, .int .i64 m6], .bool o1]) (by rfl) rfl ?_ ?_
           ·go_simp
            (try simp only [i64_w])
            try rfl
           refine hK.out _ _ ⟨d1, g5, (by rw [ha.out]; exact putSel_upk 5 hb_ rfl rfl rfl), a4, a5, a9, b0, Q_HB, g7, d8, d9, b6, b7, b8, b9, of_ (hoff 11 (by kernel_rfl)), c1⟩
          refine steps_cons ?_ ?_
          ·rintro b a w' ⟨d1, g5, ha, a4, a5, a9, b0, Q_HB, g7, d8, d9, b6, b7, b8, b9, d2, c1⟩ hb_ hon hoff
           refine ⟨_, rfl, fun K hK => ?_⟩
           have e52 : a.tmps[52]? = some (.tuple #[.agg #[.int .i64 n2, .int .i64 m6], .bool o1]) := by rw [ha]; exact putSel_on (e := (7, 52, .tuple #[.agg #[.int .i64 n2, .int .i64 m6], .bool o1])) 5 rfl rfl (hon 7 (by kernel_rfl)) rfl
           replace ha := mk_ ha
           have a2 := mk_ a4; have a1 := mk_ a5; have a3 := mk_ a9; have a8 := mk_ b0; have HB := mk_ Q_HB
           refine value_ (w1 := w') (v := .agg #[.int .i64 n2, .int .i64 m6]) (by rfl) rfl ?_ ?_
           ·go_simp
            (try simp only [i64_w])
            try rfl
           refine hK.out _ _ ⟨d1, g5, (by rw [ha.out]; exact putSel_upk 6 hb_ rfl rfl rfl), a4, a5, a9, b0, Q_HB, g7, d8, d9, b6, b7, b8, b9, of_ (hoff 11 (by kernel_rfl)), c1⟩
          refine steps_cons ?_ ?_
          ·rintro b a w' ⟨d1, g5, ha, a4, a5, a9, b0, Q_HB, g7, d8, d9, b6, b7, b8, b9, d2, c1⟩ hb_ hon hoff
           refine ⟨_, rfl, fun K hK => ?_⟩
           have e52 : a.tmps[52]? = some (.tuple #[.agg #[.int .i64 n2, .int .i64 m6], .bool o1]) := by rw [ha]; exact putSel_on (e := (7, 52, .tuple #[.agg #[.int .i64 n2, .int .i64 m6], .bool o1])) 5 rfl rfl (hon 7 (by kernel_rfl)) rfl
           replace ha := mk_ ha
           have a2 := mk_ a4; have a1 := mk_ a5; have a3 := mk_ a9; have a8 := mk_ b0; have HB := mk_ Q_HB
           refine value_ (w1 := w') (v := .bool o1) (by rfl) rfl ?_ ?_
           ·go_simp
            (try simp only [i64_w])
            try rfl
           refine hK.out _ _ ⟨d1, g5, (by rw [ha.out]; exact putSel_upk 7 hb_ rfl rfl rfl), a4, a5, a9, b0, Q_HB, g7, d8, d9, b6, b7, b8, b9, d2, c1⟩
          refine steps_cons ?_ ?_
          ·rintro b a w' ⟨d1, g5, ha, a4, a5, a9, b0, Q_HB, g7, d8, d9, b6, b7, b8, b9, d2, c1⟩ hb_ hon hoff
           refine ⟨_, rfl, fun K hK => ?_⟩
           replace ha := mk_ ha
           have a2 := mk_ a4; have a1 := mk_ a5; have a3 := mk_ a9; have a8 := mk_ b0; have HB := mk_ Q_HB
           refine box_step ?hg (N := 8) ?hd (cs := #[.int .i64 0, .int .i64 0]) (t := 48) ?hr ?_; (case hd => rfl); (case hg => rfl); (case hr => exact hr_)
           intro d1 hg w34 hbox hb
           replace a2 := rk_ a2 hb; replace a1 := rk_ a1 hb; have d7 := mk_ (hbox); have s9 := gk_ hg HB; have p8 := gk_ hg HB; replace HB := hk_ HB hb; have j8 := nk_ hg a3; have l6 := nj_ hg a3; replace a3 := bk_ a3 hb; have j9 := nk_ hg a8; have l7 := nj_ hg a8; replace a8 := bk_ a8 hb
           clear hb hbox hg
           refine hK.out _ _ ⟨d1, (.pointer (some ⟨d1, 0, none⟩)), (by rw [ha.out]; exact putSel_upk 8 hb_ rfl rfl rfl), (kx_ a2), (kx_ a1), (bx_ a3), (bx_ a8), (hw_ HB), fun _ _ => (bx_ d7), fun _ => s9.out, fun _ => p8.out, fun _ => j8.out, fun _ => l6.out, fun _ => j9.out, fun _ => l7.out, of_ (hoff 11 (by kernel_rfl)), fun _ => rfl⟩
          refine steps_cons ?_ ?_
          ·rintro b a w' ⟨d1, g5, ha, a4, a5, a9, b0, Q_HB, g7, d8, d9, b6, b7, b8, b9, d2, c1⟩ hb_ hon hoff
           refine ⟨_, rfl, fun K hK => ?_⟩
           have e8 : a.tmps[8]? = some (g5) := by rw [ha]; exact putSel_on (e := (10, 8, g5)) 8 rfl rfl (hon 10 (by kernel_rfl)) rfl
           rw [c1 (hon 10 (by kernel_rfl))] at e8
           have e60 : a.tmps[60]? = some (.agg #[.int .i64 n2, .int .i64 m6]) := by rw [ha]; exact putSel_on (e := (8, 60, .agg #[.int .i64 n2, .int .i64 m6])) 6 rfl rfl (hon 8 (by kernel_rfl)) rfl
           replace ha := mk_ ha
           have a2 := mk_ a4; have a1 := mk_ a5; have a3 := mk_ a9; have a8 := mk_ b0; have HB := mk_ Q_HB; have d7 := mk_ (g7 (hon 10 (by kernel_rfl)) hb_); have s9 := mk_ (d8 (hon 10 (by kernel_rfl))); have p8 := mk_ (d9 (hon 10 (by kernel_rfl))); have j8 := mk_ (b6 (hon 10 (by kernel_rfl))); have l6 := mk_ (b7 (hon 10 (by kernel_rfl))); have j9 := mk_ (b8 (hon 10 (by kernel_rfl))); have l7 := mk_ (b9 (hon 10 (by kernel_rfl)))
           have aj0 : w'.cell? ⟨d1, 0, none⟩ = some (.int .i64 0) := bc0_ d7
           have af5 := blk_frozen d7.out 0
           have W8 := j8.out; have W9 := j9.out
           have X0 := l6.out; have X1 := l7.out
           have aj1 : w'.cell? ⟨d1, 1, none⟩ = some (.int .i64 0) := bc1_ d7
           have af6 := blk_frozen d7.out 1
           have X2 := j8.out; have X3 := j9.out
           have X4 := l6.out; have X5 := l7.out
           refine skip_ (w1 := ?_) (by rfl) rfl ?_ ?_
           rotate_left
           ·go_simp
            rfl
           refine hK.out _ _ ⟨d1, g5, (by rw [ha.out]; exact putSel_none (v := undef) rfl), (by (with_reducible repeat (first | apply Kd.R_alloc | apply Kd.R_drewN | apply Kd.R_drew)); exact Kd.R_mono (Kd.R_far (p := ⟨d1, 1, none⟩) (Kd.R_far (p := ⟨d1, 0, none⟩) (Kd.R_types a2.out d7.out (by decide)) (fun _ hk => hk.2) (.int .i64 n2)) (fun _ hk => hk.2) (.int .i64 m6)) (fun _ hk => hk.1)), (by (with_reducible repeat (first | apply Kd.R_alloc | apply Kd.R_drewN | apply Kd.R_drew)); exact Kd.R_mono (Kd.R_far (p := ⟨d1, 1, none⟩) (Kd.R_far (p := ⟨d1, 0, none⟩) (Kd.R_types a1.out d7.out (by decide)) (fun _ hk => hk.2) (.int .i64 n2)) (fun _ hk => hk.2) (.int .i64 m6)) (fun _ hk => hk.1)), (by (with_reducible repeat (first | refine blk_drewN ?_ _ | refine blk_drew ?_ | refine blk_alloc ?_ _)); refine blk_far ?_ j8.out _; (with_reducible repeat (first | refine blk_drewN ?_ _ | refine blk_drew ?_ | refine blk_alloc ?_ _)); refine blk_far ?_ j8.out _; (with_reducible repeat (first | refine blk_drewN ?_ _ | refine blk_drew ?_ | refine blk_alloc ?_ _)); exact a3.out), (by (with_reducible repeat (first | refine blk_drewN ?_ _ | refine blk_drew ?_ | refine blk_alloc ?_ _)); refine blk_far ?_ j9.out _; (with_reducible repeat (first | refine blk_drewN ?_ _ | refine blk_drew ?_ | refine blk_alloc ?_ _)); refine blk_far ?_ j9.out _; (with_reducible repeat (first | refine blk_drewN ?_ _ | refine blk_drew ?_ | refine blk_alloc ?_ _)); exact a8.out), (by repeat (first | (with_reducible first | exact HB.out | apply below_alloc | apply pw_below_drewN | apply below_drew1 | refine below_set ?_ p8.out) | exact HB.out)), fun _ C7 => absurd ((up_self b 11).symm.trans C7) (by decide), fun _ => s9.out, fun _ => p8.out, fun _ => j8.out, fun _ => l6.out, fun _ => j9.out, fun _ => l7.out, fun _ => (by (with_reducible repeat (first | refine blk_drewN ?_ _ | refine blk_drew ?_ | refine blk_alloc ?_ _)); refine blk_put (cs := #[.int .i64 n2, .int .i64 0]) ?_ 1 _ rfl; (with_reducible repeat (first | refine blk_drewN ?_ _ | refine blk_drew ?_ | refine blk_alloc ?_ _)); refine blk_put (cs := #[.int .i64 0, .int .i64 0]) ?_ 0 _ rfl; (with_reducible repeat (first | refine blk_drewN ?_ _ | refine blk_drew ?_ | refine blk_alloc ?_ _)); exact d7.out), c1⟩
          refine steps_cons ?_ ?_
          ·rintro b a w' ⟨d1, g5, ha, a4, a5, a9, b0, Q_HB, g7, d8, d9, b6, b7, b8, b9, d2, c1⟩ hb_ hon hoff
           refine ⟨_, rfl, fun K hK => ?_⟩
           have e61 : a.tmps[61]? = some (.bool o1) := by rw [ha]; exact putSel_on (e := (9, 61, .bool o1)) 7 rfl rfl (hon 9 (by kernel_rfl)) rfl
           replace ha := mk_ ha
           have a2 := mk_ a4; have a1 := mk_ a5; have a3 := mk_ a9; have a8 := mk_ b0; have HB := mk_ Q_HB; have s9 := mk_ (d8 (hon 10 (by kernel_rfl))); have p8 := mk_ (d9 (hon 10 (by kernel_rfl))); have j8 := mk_ (b6 (hon 10 (by kernel_rfl))); have l6 := mk_ (b7 (hon 10 (by kernel_rfl))); have j9 := mk_ (b8 (hon 10 (by kernel_rfl))); have l7 := mk_ (b9 (hon 10 (by kernel_rfl))); have d7 := mk_ (d2 (hon 11 (by kernel_rfl)))
           refine value_ (w1 := w') (v := .bool o1) (by rfl) rfl ?_ ?_
           ·go_simp
            (try simp only [i64_w])
            try rfl
           refine hK.out _ _ ⟨d1, g5, (by rw [ha.out]; exact putSel_upk 9 hb_ rfl rfl rfl), a4, a5, a9, b0, Q_HB, fun _ C7 => absurd ((hon 11 (by kernel_rfl)).symm.trans C7) (by decide), d8, d9, b6, b7, b8, b9, d2, c1⟩
          exact steps_nil
         rintro b a w38 hall ⟨d1, g5, ha, a4, a5, a9, b0, Q_HB, g7, d8, d9, b6, b7, b8, b9, d2, c1⟩
         clear a3 a8 HB a2 a1
         have C8 := hall 0 (by kernel_rfl)
         have C9 := hall 2 (by kernel_rfl)
         have D0 := hall 4 (by kernel_rfl)
         have D1 := hall 5 (by kernel_rfl)
         have D2 := hall 6 (by kernel_rfl)
         have D3 := hall 7 (by kernel_rfl)
         have D4 := hall 8 (by kernel_rfl)
         have D5 := hall 9 (by kernel_rfl)
         have m4 := hall 10 (by kernel_rfl)
         have p4 := hall 11 (by kernel_rfl)
         have t0 := hall 12 (by kernel_rfl)
         subst ha
         obtain rfl := c1 m4
         simp only [putSel, C8, C9, D0, D1, D2, D3, D4, D5, m4, p4, t0, if_true, Act.put, List.setIfInBounds_toArray, List.set_cons_zero, List.set_cons_succ]
         have a2 := mk_ a4; clear a4; have a1 := mk_ a5; clear a5; have a3 := mk_ a9; clear a9; have a8 := mk_ b0; clear b0; have HB := mk_ Q_HB; clear Q_HB; clear g7; have s9 := mk_ (d8 m4); clear d8; have p8 := mk_ (d9 m4); clear d9; have j8 := mk_ (b6 m4); clear b6; have l6 := mk_ (b7 m4); clear b7; have j9 := mk_ (b8 m4); clear b8; have l7 := mk_ (b9 m4); clear b9; have d7 := mk_ (d2 p4); clear d2; clear hall C8 C9 D0 D1 D2 D3 D4 D5 m4 p4 t0
         go_upto_region 11 with (fail)
         go_cut [78] (fun v78 wc => ∃ (kq : Nat) (q1 : Bool), v78 = .bool q1 ∧ Aside0 (laws_FnTables.j2 kq o0 c9 q1 a7 a6 l1 l4 = some r) ∧ Aside0 (kq ≤ k2) ∧ Aside0 (Kd.R (Kd.int .i64) 3 wc w.heap.size (fun k_ => some k_ ≠ ((.slice h8 a6.length c5) : Value).ownBlock) (.slice (some g6) a7.length h7) a7) ∧ Aside0 (Kd.R (Kd.int .i64) 3 wc w.heap.size (fun k_ => some k_ ≠ ((.slice (some g6) a7.length h7) : Value).ownBlock) (.slice h8 a6.length c5) a6) ∧ Aside0 (wc.heap[c4]? = some (.cells #[(.slice (some g6) a7.length h7), (.slice h8 a6.length c5)] 51 (0, 0))) ∧ Aside0 (wc.heap[h3]? = some (.cells #[.int .i64 l1, .int .i64 l4] 48 (0, 0))) ∧ Aside0 (wc.heap[d1]? = some (.cells #[.int .i64 n2, .int .i64 m6] 48 (0, 0))) ∧ Aside0 (Below w.heap.size w wc))
         case first => as_aux_lemma =>
          have H := F7.out; clear F7; by_cases X6 : o1 = true
          ·subst X6; rw [if_pos rfl] at H
           by_cases F8 : m6 = 1
           ·rw [if_pos F8] at H; have t1 : (m6 == 1) = true := beq_iff_eq.mpr F8; have J8 : (m6 != 1) = false := bne_eq_false_iff_eq.mpr F8; clear F8
            (first | rw [t1] | (simp only [i64_w, i32_w]; rw [t1]) | skip)
            by_cases X7 : c9 < (a6.length : Int)
            ·rw [if_pos X7] at H; have af7 : decide (c9 < (a6.length : Int)) = true := decide_eq_true X7; clear X7
             have H' := mk_ H
             clear H
             try go_wp2
             replace a2 := dR_ a2; replace a1 := dR_ a1; replace a3 := dB_ a3; replace a8 := dB_ a8; replace d7 := dB_ d7; replace HB := dH_ HB
             have F9 : 0 ≤ (c9 : Int) := od_
             have G0 : c9 < (a6.length : Int) := od_
             obtain ⟨F1, ab7, B8⟩ := Kd.at_int (rr_ a1) c9 F9 G0; cases ab7; replace F9 := eq_true F9; replace G0 := eq_true G0
             refine start_ (n := 17) (S := fun w' => w'.cell? ⟨d1, 0, none⟩ = some (.int .i64 n2) ∧ w'.cell? ⟨d1, 1, none⟩ = some (.int .i64 m6) ∧ w'.cell? ⟨c4, 0, none⟩ = some (.slice (some g6) a7.length h7) ∧ w'.cell? ⟨c4, 1, none⟩ = some (.slice (some F1) a6.length c5) ∧ w'.cell? (F1.add (c9).toNat) = some (.int .i64 (rd a6 c9))) (ds := []) (bs_ 17 0) (by kernel_rfl) rfl (by kernel_rfl) ⟨bc0_ d7, bc1_ d7, bc0_ a3, bc1_ a3, B8⟩ (fun hHeld => ?_); refine with_tabW laws_FnTables.tab11 laws_FnTables.bits11 (fun HT_ HW_ => ?_)
             generalize w38.drew = w42 at a2 a1 a3 a8 d7 HB B8 hHeld ⊢
             refine pu_ HT_ 0 62 (bs_ 17 1) ?_; refine pu_ HT_ 1 63 (bs_ 17 3) ?_; refine pu_ HT_ 2 64 (bs_ 17 7) ?_; refine pu_ HT_ 3 65 (bs_ 17 15) ?_; refine tk_ HT_ HW_ 4 66 (bs_ 17 31) hHeld ?_; refine pu_ HT_ 5 67 (bs_ 17 63) ?_; refine pu_ HT_ 6 68 (bs_ 17 127) ?_; refine pu_ HT_ 7 69 (bs_ 17 255) ?_; refine pu_ HT_ 8 70 (bs_ 17 511) ?_; refine pu_ HT_ 10 72 (bs_ 17 1535) ?_; refine pu_ HT_ 12 74 (bs_ 17 5631) ?_; refine tk_ HT_ HW_ 9 71 (bs_ 17 6143) hHeld ?_; refine tk_ HT_ HW_ 11 73 (bs_ 17 8191) hHeld ?_; refine pu_ HT_ 13 75 (bs_ 17 16383) ?_; refine tk_ HT_ HW_ 14 76 (bs_ 17 32767) hHeld ?_; refine pu_ HT_ 15 77 (bs_ 17 65535) ?_; refine pu_ HT_ 16 78 (bs_ 17 131071) ?_
             refine done_ (done_of HT_.out (by kernel_rfl)) ?_
             try go_wp2
             go_meet
             case rel => exact ⟨_, ((n2 != (rd a6 c9))), rf_, H', ⟨by have := A3.out; have := A6.out; first | omega | exact Nat.le_refl _⟩, kw_ a2, kw_ a1, bw_ a3, bw_ a8, bw_ d7, ⟨hw_ HB⟩⟩
            ·rw [if_neg X7] at H
             exact absurd H (by simp)
           ·rw [if_neg F8] at H; have t1 : (m6 == 1) = false := beq_eq_false_iff_ne.mpr F8; have J8 : (m6 != 1) = true := bne_iff_ne.mpr F8
            (first | rw [t1] | (simp only [i64_w, i32_w]; rw [t1]) | skip)
            have H' := mk_ H
            clear H
            try go_wp2
            replace a2 := dR_ a2; replace a1 := dR_ a1; replace a3 := dB_ a3; replace a8 := dB_ a8; replace d7 := dB_ d7; replace HB := dH_ HB
            refine start_ (n := 17) (S := fun w' => w'.cell? ⟨d1, 0, none⟩ = some (.int .i64 n2) ∧ w'.cell? ⟨d1, 1, none⟩ = some (.int .i64 m6)) (ds := []) (bs_ 17 0) (by kernel_rfl) rfl (by kernel_rfl) ⟨bc0_ d7, bc1_ d7⟩ (fun hHeld => ?_); refine with_tabW laws_FnTables.tab11 laws_FnTables.bits11 (fun HT_ HW_ => ?_)
            generalize w38.drew = w43 at a2 a1 a3 a8 d7 HB hHeld ⊢
            refine pu_ HT_ 0 62 (bs_ 17 1) ?_; refine pu_ HT_ 1 63 (bs_ 17 3) ?_; refine pu_ HT_ 2 64 (bs_ 17 7) ?_; refine pu_ HT_ 3 65 (bs_ 17 15) ?_; refine tk_ HT_ HW_ 4 66 (bs_ 17 31) hHeld ?_; refine pu_ HT_ 5 67 (bs_ 17 63) ?_; refine pu_ HT_ 6 68 (bs_ 17 127) ?_; refine pu_ HT_ 7 69 (bs_ 17 255) ?_; refine pn_ HT_ 8 70 (bs_ 17 511) ?_; refine pn_ HT_ 9 71 (bs_ 17 1023) ?_; refine pn_ HT_ 10 72 (bs_ 17 2047) ?_; refine pn_ HT_ 11 73 (bs_ 17 4095) ?_; refine pn_ HT_ 12 74 (bs_ 17 8191) ?_; refine pn_ HT_ 13 75 (bs_ 17 16383) ?_; refine pn_ HT_ 14 76 (bs_ 17 32767) ?_; refine pn_ HT_ 15 77 (bs_ 17 65535) ?_; refine pu_ HT_ 16 78 (bs_ 17 131071) ?_
            refine done_ (done_of HT_.out (by kernel_rfl)) ?_
            try go_wp2
            go_meet
            case rel => exact ⟨_, (true), rf_, H', ⟨by have := A3.out; have := A6.out; first | omega | exact Nat.le_refl _⟩, kw_ a2, kw_ a1, bw_ a3, bw_ a8, bw_ d7, ⟨hw_ HB⟩⟩
          ·replace X6 := Bool.eq_false_iff.mpr X6; subst X6; rw [if_neg (show ¬ (false = true) by decide)] at H
           have H' := mk_ H
           clear H
           try go_wp2
           replace a2 := dR_ a2; replace a1 := dR_ a1; replace a3 := dB_ a3; replace a8 := dB_ a8; replace d7 := dB_ d7; replace HB := dH_ HB
           refine start_ (n := 17) (S := fun w' => True) (ds := []) (bs_ 17 0) (by kernel_rfl) rfl rfl trivial (fun hHeld => ?_); refine with_tabW laws_FnTables.tab11 laws_FnTables.bits11 (fun HT_ HW_ => ?_)
           generalize w38.drew = w44 at a2 a1 a3 a8 d7 HB hHeld ⊢
           refine pu_ HT_ 0 62 (bs_ 17 1) ?_; refine pu_ HT_ 1 63 (bs_ 17 3) ?_; refine pu_ HT_ 2 64 (bs_ 17 7) ?_; refine pn_ HT_ 3 65 (bs_ 17 15) ?_; refine pn_ HT_ 4 66 (bs_ 17 31) ?_; refine pn_ HT_ 5 67 (bs_ 17 63) ?_; refine pu_ HT_ 6 68 (bs_ 17 127) ?_; refine pu_ HT_ 7 69 (bs_ 17 255) ?_; refine pn_ HT_ 8 70 (bs_ 17 511) ?_; refine pn_ HT_ 9 71 (bs_ 17 1023) ?_; refine pn_ HT_ 10 72 (bs_ 17 2047) ?_; refine pn_ HT_ 11 73 (bs_ 17 4095) ?_; refine pn_ HT_ 12 74 (bs_ 17 8191) ?_; refine pn_ HT_ 13 75 (bs_ 17 16383) ?_; refine pn_ HT_ 14 76 (bs_ 17 32767) ?_; refine pn_ HT_ 15 77 (bs_ 17 65535) ?_; refine pu_ HT_ 16 78 (bs_ 17 131071) ?_
           refine done_ (done_of HT_.out (by kernel_rfl)) ?_
           try go_wp2
           go_meet
           case rel => exact ⟨_, (true), rf_, H', ⟨by have := A3.out; have := A6.out; first | omega | exact Nat.le_refl _⟩, kw_ a2, kw_ a1, bw_ a3, bw_ a8, bw_ d7, ⟨hw_ HB⟩⟩
         case rest => as_aux_lemma =>
          clear F7; (try clear c3)
          obtain ⟨kq, q1, rfl, HA, p5, a2, a1, a3, a8, d7, HB⟩ := hcut
          cases kq with
          | zero => exact absurd HA.out (by simp [laws_FnTables.j2])
          | succ kj29 =>
           have H := HA.out; clear HA
           simp only [laws_FnTables.j2] at H
           by_cases G1 : q1 = true
           ·subst G1; rw [if_pos rfl] at H
            obtain rfl := Option.some.inj H; go_wp2
            go_ret
            exact ⟨re_, hw_ HB⟩
           ·replace G1 := Bool.eq_false_iff.mpr G1; subst G1; rw [if_neg (show ¬ (false = true) by decide)] at H; have G2 := mk_ H; clear H
            go_upto_region 13 with (fail)
            go_cut [99] (fun v99 wc => ∃ (kq : Nat) (q2 : Bool), v99 = .bool q2 ∧ Aside0 (laws_FnTables.j3 kq o0 c9 q2 a7 a6 l1 l4 = some r) ∧ Aside0 (kq ≤ kj29) ∧ Aside0 (Kd.R (Kd.int .i64) 3 wc w.heap.size (fun k_ => some k_ ≠ ((.slice h8 a6.length c5) : Value).ownBlock) (.slice (some g6) a7.length h7) a7) ∧ Aside0 (Kd.R (Kd.int .i64) 3 wc w.heap.size (fun k_ => some k_ ≠ ((.slice (some g6) a7.length h7) : Value).ownBlock) (.slice h8 a6.length c5) a6) ∧ Aside0 (wc.heap[c4]? = some (.cells #[(.slice (some g6) a7.length h7), (.slice h8 a6.length c5)] 51 (0, 0))) ∧ Aside0 (wc.heap[h3]? = some (.cells #[.int .i64 l1, .int .i64 l4] 48 (0, 0))) ∧ Aside0 (wc.heap[d1]? = some (.cells #[.int .i64 n2, .int .i64 m6] 48 (0, 0))) ∧ Aside0 (Below w.heap.size w wc))
            case first => as_aux_lemma =>
             have H := G2.out; clear G2; by_cases I1 : c9 > 0
             ·rw [if_pos I1] at H; have t2 : decide (0 < c9) = true := decide_eq_true I1; clear I1
              (first | rw [t2] | (simp only [i64_w, i32_w]; rw [t2]) | skip)
              obtain ⟨o2, D6⟩ : ∃ j_ : Int, (wrap64 (c9 - 1)) = j_ := ⟨_, rfl⟩
              replace H : (if 0 ≤ (o2) then (if (o2) < (a7.length : Int) then (if (rd a7 (o2)) ≤ o0 then (if 0 ≤ c9 then (if c9 < (a7.length : Int) then (laws_FnTables.j3 kj29 o0 c9 (decide (o0 ≤ (rd a7 c9))) a7 a6 l1 l4) else (none)) else (none)) else (laws_FnTables.j3 kj29 o0 c9 false a7 a6 l1 l4)) else (none)) else (none)) = some r := by first | (rw [D6] at H; exact H) | (simp only [D6] at H ⊢; exact H)
              have hji48w : (IntKind.i64.wrap (c9 - 1)) = o2 := (i64_w _).trans D6
              by_cases X8 : 0 ≤ (o2)
              ·rw [if_pos X8] at H; have af8 : decide (0 ≤ (o2)) = true := decide_eq_true X8; clear X8; by_cases X9 : (o2) < (a7.length : Int)
               ·rw [if_pos X9] at H; have af9 : decide ((o2) < (a7.length : Int)) = true := decide_eq_true X9; clear X9; by_cases I2 : (rd a7 (o2)) ≤ o0
                ·rw [if_pos I2] at H; have J9 : decide ((rd a7 (o2)) ≤ o0) = true := decide_eq_true I2; clear I2; by_cases Y0 : 0 ≤ c9
                 ·rw [if_pos Y0] at H; have ag0 : decide (0 ≤ c9) = true := decide_eq_true Y0; clear Y0; by_cases Y1 : c9 < (a7.length : Int)
                  ·rw [if_pos Y1] at H; have ag1 : decide (c9 < (a7.length : Int)) = true := decide_eq_true Y1; clear Y1
                   have H' := mk_ H
                   clear H; have ag2 := g3.out; have ag3 := l5.out; have ag4 := j8.out; have ag5 := l6.out; have Y2 := bc0_ a3; have Y3 := bc1_ a3; have Y4 := bf_ a3 0; have Y5 := bf_ a3 1
                   have A8 : 0 ≤ ((o2) : Int) := od_
                   have A9 : (o2) < (a7.length : Int) := od_
                   obtain ⟨D7, G3, E4⟩ := Kd.at_int (rr_ a2) (o2) A8 A9; obtain rfl : g6 = D7 := (by injection G3); replace A8 := eq_true A8; replace A9 := eq_true A9
                   have G4 : 0 ≤ (c9 : Int) := od_
                   have G5 : c9 < (a7.length : Int) := od_
                   obtain ⟨L0, ab8, Y6⟩ := Kd.at_int (rr_ a2) c9 G4 G5; obtain rfl : g6 = L0 := (by injection ab8); replace G4 := eq_true G4; replace G5 := eq_true G5; go_wp2; go_meet
                   case rel => exact ⟨_, (decide (o0 ≤ (rd a7 c9))), rf_, H', ⟨by have := A3.out; have := A6.out; have := p5.out; first | omega | exact Nat.le_refl _⟩, kw_ a2, kw_ a1, bw_ a3, bw_ a8, bw_ d7, ⟨hw_ HB⟩⟩
                  ·rw [if_neg Y1] at H
                   exact absurd H (by simp)
                 ·rw [if_neg Y0] at H
                  exact absurd H (by simp)
                ·rw [if_neg I2] at H; have J9 : decide ((rd a7 (o2)) ≤ o0) = false := decide_eq_false I2; clear I2
                 have H' := mk_ H
                 clear H; have ag6 := g3.out; have ag7 := l5.out; have ag8 := j8.out; have ag9 := l6.out; have Y7 := bc0_ a3; have Y8 := bc1_ a3; have Y9 := bf_ a3 0; have Z0 := bf_ a3 1
                 have A8 : 0 ≤ ((o2) : Int) := od_
                 have A9 : (o2) < (a7.length : Int) := od_
                 obtain ⟨D7, G3, E4⟩ := Kd.at_int (rr_ a2) (o2) A8 A9; obtain rfl : g6 = D7 := (by injection G3); replace A8 := eq_true A8; replace A9 := eq_true A9; go_wp2; go_meet
                 case rel => exact ⟨_, (false), rf_, H', ⟨by have := A3.out; have := A6.out; have := p5.out; first | omega | exact Nat.le_refl _⟩, kw_ a2, kw_ a1, bw_ a3, bw_ a8, bw_ d7, ⟨hw_ HB⟩⟩
               ·rw [if_neg X9] at H
                exact absurd H (by simp)
              ·rw [if_neg X8] at H
               exact absurd H (by simp)
             ·rw [if_neg I1] at H; have t2 : decide (0 < c9) = false := decide_eq_false I1; clear I1
              (first | rw [t2] | (simp only [i64_w, i32_w]; rw [t2]) | skip)
              have H' := mk_ H
              clear H; go_wp2; go_meet
              case rel => exact ⟨_, (false), rf_, H', ⟨by have := A3.out; have := A6.out; have := p5.out; first | omega | exact Nat.le_refl _⟩, kw_ a2, kw_ a1, bw_ a3, bw_ a8, bw_ d7, ⟨hw_ HB⟩⟩
            case rest => as_aux_lemma =>
             clear G2; (try clear c3); (try clear G1)
             obtain ⟨kq, q2, rfl, HA, t3, a2, a1, a3, a8, d7, HB⟩ := hcut
             cases kq with
             | zero => exact absurd HA.out (by simp [laws_FnTables.j3])
             | succ kj45 =>
              have H := HA.out; clear HA
              simp only [laws_FnTables.j3] at H
              by_cases I3 : q2 = true
              ·subst I3; rw [if_pos rfl] at H
               obtain ⟨n6, p9⟩ : ∃ j_ : Int, (wrap64 (c9 - 1)) = j_ := ⟨_, rfl⟩
               replace H : (if 0 ≤ (n6) then (if (n6) < (a6.length : Int) then (if 0 ≤ c9 then (if c9 < (a6.length : Int) then (if (rd a6 (n6)) > (rd a6 c9) then (laws_FnTables.j4 kj45 o0 c9 (rd a6 c9) (rd a6 (n6)) a7 a6 l1 l4) else (laws_FnTables.j4 kj45 o0 c9 (rd a6 (n6)) (rd a6 c9) a7 a6 l1 l4)) else (none)) else (none)) else (none)) else (none)) = some r := by first | (rw [p9] at H; exact H) | (simp only [p9] at H ⊢; exact H)
               have hji61w : (IntKind.i64.wrap (c9 - 1)) = n6 := (i64_w _).trans p9
               by_cases I4 : 0 ≤ (n6)
               ·rw [if_pos I4] at H; have F2 : decide (0 ≤ (n6)) = true := decide_eq_true I4; clear I4; by_cases I5 : (n6) < (a6.length : Int)
                ·rw [if_pos I5] at H; have F3 : decide ((n6) < (a6.length : Int)) = true := decide_eq_true I5; clear I5; by_cases I6 : 0 ≤ c9
                 ·rw [if_pos I6] at H; have F4 : decide (0 ≤ c9) = true := decide_eq_true I6; clear I6; by_cases I7 : c9 < (a6.length : Int)
                  ·rw [if_pos I7] at H; have ah0 : decide (c9 < (a6.length : Int)) = true := decide_eq_true I7; clear I7; have G6 := mk_ H; clear H
                   try go_wp2
                   replace a2 := dR_ a2; replace a1 := dR_ a1; replace a3 := dB_ a3; replace a8 := dB_ a8; replace d7 := dB_ d7; replace HB := dH_ HB
                   have G7 : 0 ≤ ((n6) : Int) := od_
                   have G8 : (n6) < (a6.length : Int) := od_
                   obtain ⟨o6, ab9, B9⟩ := Kd.at_int (rr_ a1) (n6) G7 G8; cases ab9; replace G7 := eq_true G7; replace G8 := eq_true G8
                   have G9 : 0 ≤ (c9 : Int) := od_
                   have H0 : c9 < (a6.length : Int) := od_
                   obtain ⟨L1, ac0, C0⟩ := Kd.at_int (rr_ a1) c9 G9 H0; obtain rfl : o6 = L1 := (by injection ac0); replace G9 := eq_true G9; replace H0 := eq_true H0
                   refine start_ (n := 13) (S := fun w' => w'.cell? ⟨c4, 0, none⟩ = some (.slice (some g6) a7.length h7) ∧ w'.cell? ⟨c4, 1, none⟩ = some (.slice (some o6) a6.length c5) ∧ w'.cell? (o6.add ((n6)).toNat) = some (.int .i64 (rd a6 (n6))) ∧ w'.cell? (o6.add (c9).toNat) = some (.int .i64 (rd a6 c9))) (ds := []) (bs_ 13 0) (by kernel_rfl) rfl (by kernel_rfl) ⟨bc0_ a3, bc1_ a3, B9, C0⟩ (fun hHeld => ?_); refine with_tabW laws_FnTables.tab14 laws_FnTables.bits14 (fun HT_ HW_ => ?_)
                   generalize wc.drew = w67 at a2 a1 a3 a8 d7 HB B9 C0 hHeld ⊢
                   refine pu_ HT_ 0 100 (bs_ 13 1) ?_; refine pu_ HT_ 2 102 (bs_ 13 5) ?_; refine pu_ HT_ 3 103 (bs_ 13 13) ?_; refine pu_ HT_ 6 106 (bs_ 13 77) ?_; refine pu_ HT_ 8 108 (bs_ 13 333) ?_; refine tk_ HT_ HW_ 1 101 (bs_ 13 335) hHeld ?_; refine pu_ HT_ 4 104 (bs_ 13 351) ?_; refine tk_ HT_ HW_ 5 105 (bs_ 13 383) hHeld ?_; refine pu_ HT_ 11 10 (bs_ 13 2431) ?_; refine tk_ HT_ HW_ 7 107 (bs_ 13 2559) hHeld ?_; refine pu_ HT_ 9 109 (bs_ 13 3071) ?_; refine tk_ HT_ HW_ 10 110 (bs_ 13 4095) hHeld ?_; refine pu_ HT_ 12 11 (bs_ 13 8191) ?_
                   refine done_ (done_of HT_.out (by kernel_rfl)) ?_
                   go_upto_if 113 with (fail)
                   go_cut [10, 11] (fun v10 v11 wc => ∃ (kq : Nat) (o9 : Int) (q3 : Int), v10 = .int .i64 o9 ∧ v11 = .int .i64 q3 ∧ Aside0 (laws_FnTables.j4 kq o0 c9 o9 q3 a7 a6 l1 l4 = some r) ∧ Aside0 (kq ≤ kj45) ∧ Aside0 (Kd.R (Kd.int .i64) 3 wc w.heap.size (fun k_ => some k_ ≠ ((.slice (some o6) a6.length c5) : Value).ownBlock) (.slice (some g6) a7.length h7) a7) ∧ Aside0 (Kd.R (Kd.int .i64) 3 wc w.heap.size (fun k_ => some k_ ≠ ((.slice (some g6) a7.length h7) : Value).ownBlock) (.slice (some o6) a6.length c5) a6) ∧ Aside0 (wc.heap[c4]? = some (.cells #[(.slice (some g6) a7.length h7), (.slice (some o6) a6.length c5)] 51 (0, 0))) ∧ Aside0 (wc.heap[h3]? = some (.cells #[.int .i64 l1, .int .i64 l4] 48 (0, 0))) ∧ Aside0 (wc.heap[d1]? = some (.cells #[.int .i64 n2, .int .i64 m6] 48 (0, 0))) ∧ Aside0 (Below w.heap.size w wc))
                   case first =>
                    have H := G6.out; clear G6; by_cases I8 : (rd a6 (n6)) > (rd a6 c9)
                    ·rw [if_pos I8] at H; have t4 : decide ((rd a6 c9) < (rd a6 (n6))) = true := decide_eq_true I8; clear I8
                     (first | rw [t4] | (simp only [i64_w, i32_w]; rw [t4]) | skip)
                     have H' := mk_ H
                     clear H; go_wp2; go_meet
                     case rel => exact ⟨_, (rd a6 c9), (rd a6 (n6)), rf_, (by first | rfl | (simp; done) | (simp only [← p9] <;> (first | rfl | simp)) | (simp [*]; done)), H', ⟨by have := A3.out; have := A6.out; have := p5.out; have := t3.out; first | omega | exact Nat.le_refl _⟩, kw_ a2, kw_ a1, bw_ a3, bw_ a8, bw_ d7, ⟨hw_ HB⟩⟩
                    ·rw [if_neg I8] at H; have t4 : decide ((rd a6 c9) < (rd a6 (n6))) = false := decide_eq_false I8; clear I8
                     (first | rw [t4] | (simp only [i64_w, i32_w]; rw [t4]) | skip)
                     have H' := mk_ H
                     clear H; go_wp2; go_meet
                     case rel => exact ⟨_, (rd a6 (n6)), (rd a6 c9), (by first | rfl | (simp; done) | (simp only [← p9] <;> (first | rfl | simp)) | (simp [*]; done)), rf_, H', ⟨by have := A3.out; have := A6.out; have := p5.out; have := t3.out; first | omega | exact Nat.le_refl _⟩, kw_ a2, kw_ a1, bw_ a3, bw_ a8, bw_ d7, ⟨hw_ HB⟩⟩
                   case rest => as_aux_lemma =>
                    clear G6; (try clear c3); (try clear G1); (try clear I3); (try clear I4); (try clear F2); (try clear I5); (try clear F3); (try clear I6); (try clear F4); (try clear I7)
                    obtain ⟨kq, o9, q3, rfl, rfl, HA, E5, a2, a1, a3, a8, d7, HB⟩ := hcut
                    cases kq with
                    | zero => exact absurd HA.out (by simp [laws_FnTables.j4])
                    | succ kj65 =>
                     have H := HA.out; clear HA
                     simp only [laws_FnTables.j4] at H
                     have H1 := mk_ H; clear H
                     go_upto_region 17 with (fail)
                     go_cut [131] (fun v131 wc => ∃ (kq : Nat) (p0 : Bool), v131 = .bool p0 ∧ Aside0 (laws_FnTables.j5 kq o0 c9 p0 a7 a6 l1 l4 = some r) ∧ Aside0 (kq ≤ kj65) ∧ Aside0 (Kd.R (Kd.int .i64) 3 wc w.heap.size (fun k_ => some k_ ≠ ((.slice (some o6) a6.length c5) : Value).ownBlock) (.slice (some g6) a7.length h7) a7) ∧ Aside0 (Kd.R (Kd.int .i64) 3 wc w.heap.size (fun k_ => some k_ ≠ ((.slice (some g6) a7.length h7) : Value).ownBlock) (.slice (some o6) a6.length c5) a6) ∧ Aside0 (wc.heap[c4]? = some (.cells #[(.slice (some g6) a7.length h7), (.slice (some o6) a6.length c5)] 51 (0, 0))) ∧ Aside0 (wc.heap[h3]? = some (.cells #[.int .i64 l1, .int .i64 l4] 48 (0, 0))) ∧ Aside0 (wc.heap[d1]? = some (.cells #[.int .i64 n2, .int .i64 m6] 48 (0, 0))) ∧ Aside0 (Below w.heap.size w wc))
                     case first =>
                      have H := H1.out; clear H1; by_cases I9 : l1 < (wrap64 (o9 * l4))
                      ·rw [if_pos I9] at H; have t5 : decide (l1 < (wrap64 (o9 * l4))) = true := decide_eq_true I9; clear I9
                       (first | rw [t5] | (simp only [i64_w, i32_w]; rw [t5]) | skip)
                       have H' := mk_ H
                       clear H; have ah1 := l5.out; have ah2 := g3.out; have ah3 := j9.out; have ah4 := l7.out; have Z1 := bc0_ a8; have Z2 := bc1_ a8; have Z3 := bf_ a8 0; have Z4 := bf_ a8 1; go_wp2; go_meet
                       case rel => exact ⟨_, (true), rf_, H', ⟨by have := A3.out; have := A6.out; have := p5.out; have := t3.out; have := E5.out; first | omega | exact Nat.le_refl _⟩, kw_ a2, kw_ a1, bw_ a3, bw_ a8, bw_ d7, ⟨hw_ HB⟩⟩
                      ·rw [if_neg I9] at H; have t5 : decide (l1 < (wrap64 (o9 * l4))) = false := decide_eq_false I9; clear I9
                       (first | rw [t5] | (simp only [i64_w, i32_w]; rw [t5]) | skip)
                       have H' := mk_ H
                       clear H; have ah5 := l5.out; have ah6 := g3.out; have ah7 := j9.out; have ah8 := l7.out; have Z5 := bc0_ a8; have Z6 := bc1_ a8; have Z7 := bf_ a8 0; have Z8 := bf_ a8 1; go_wp2; go_meet
                       case rel => exact ⟨_, (decide (l1 > (wrap64 (q3 * l4)))), rf_, H', ⟨by have := A3.out; have := A6.out; have := p5.out; have := t3.out; have := E5.out; first | omega | exact Nat.le_refl _⟩, kw_ a2, kw_ a1, bw_ a3, bw_ a8, bw_ d7, ⟨hw_ HB⟩⟩
                     case rest => as_aux_lemma =>
                      clear H1; (try clear c3); (try clear G1); (try clear I3); (try clear I4); (try clear F2); (try clear I5); (try clear F3); (try clear I6); (try clear F4); (try clear I7)
                      obtain ⟨kq, p0, rfl, HA, L2, a2, a1, a3, a8, d7, HB⟩ := hcut
                      cases kq with
                      | zero => exact absurd HA.out (by simp [laws_FnTables.j5])
                      | succ kj68 =>
                       have H := HA.out; clear HA
                       simp only [laws_FnTables.j5] at H
                       by_cases Z9 : p0 = true
                       ·subst Z9; rw [if_pos rfl] at H
                        obtain rfl := Option.some.inj H; go_wp2
                        go_ret
                        exact ⟨by first | rfl | (simp [errW_none, errW_some] <;> rfl) | (simp only [← p9]; first | rfl | (simp [errW_none, errW_some] <;> rfl)) | (simp [*, errW_none, errW_some] <;> rfl), hw_ HB⟩
                       ·replace Z9 := Bool.eq_false_iff.mpr Z9; subst Z9; rw [if_neg (show ¬ (false = true) by decide)] at H
                        have H' := mk_ H
                        clear H; go_wp2
                        go_roundg kj68
                        case measure => have := A3.out; have := A6.out; have := p5.out; have := t3.out; have := E5.out; have := L2.out; omega
                        case rel => exact ⟨(wrap64 (c9 + 1)), rf_, H', ⟨by have := A3.out; have := A6.out; have := p5.out; have := t3.out; have := E5.out; have := L2.out; omega⟩, kw_ a2, kw_ a1, bw_ a3, bw_ a8, ⟨hw_ HB⟩⟩
                  ·rw [if_neg I7] at H
                   exact absurd H (by simp)
                 ·rw [if_neg I6] at H
                  exact absurd H (by simp)
                ·rw [if_neg I5] at H
                 exact absurd H (by simp)
               ·rw [if_neg I4] at H
                exact absurd H (by simp)
              ·replace I3 := Bool.eq_false_iff.mpr I3; subst I3; rw [if_neg (show ¬ (false = true) by decide)] at H
               have H' := mk_ H
               clear H; go_wp2
               go_roundg kj45
               case measure => have := A3.out; have := A6.out; have := p5.out; have := t3.out; omega
               case rel => exact ⟨(wrap64 (c9 + 1)), rf_, H', ⟨by have := A3.out; have := A6.out; have := p5.out; have := t3.out; omega⟩, kw_ a2, kw_ a1, bw_ a3, bw_ a8, ⟨hw_ HB⟩⟩
        ·rw [if_neg W3] at H
         exact absurd H (by simp)
       ·rw [if_neg I0] at H; have J6 : decide (c9 < (a7.length : Int)) = false := decide_eq_false I0; clear I0; by_cases c78 : 0 < (a7.length : Int)
        ·rw [if_pos c78] at H; have ah9 : decide (0 < (a7.length : Int)) = true := decide_eq_true c78; have ai0 : decide (0 < a7.length) = true := decide_eq_true (by omega); clear c78; replace H := Option.bind_eq_some_iff.mp H; obtain ⟨⟨n1, n5, o4⟩, L3, H⟩ := H; (try dsimp only at H); have A79 := mk_ L3; clear L3; have H2 := mk_ H; clear H; have ai1 := g3.out; have ai2 := l5.out; have aa0 := bc0_ a3; have aa1 := bc1_ a3; have aa2 := bf_ a3 0; have aa3 := bf_ a3 1
         try go_wp2
         replace a2 := dR_ a2; replace a1 := dR_ a1; replace a3 := dB_ a3; replace a8 := dB_ a8; replace HB := dH_ HB
         have E6 : 0 ≤ (0 : Int) := (by omega)
         have E7 : 0 < (a7.length : Int) := od_
         obtain ⟨c8, ac1, q4⟩ := Kd.at_int (rr_ a2) 0 E6 E7; cases ac1
         have qi299 : (0 < a7.length) = True := eq_true (by omega)
         (try rw [show ((0 : Int)).toNat = 0 from rfl] at q4)
         (try rw [Addr.add_zero'] at q4)
         replace E6 := eq_true E6; replace E7 := eq_true E7
         refine start_ (n := 13) (S := fun w' => True) (ds := []) (bs_ 13 0) (by kernel_rfl) rfl rfl trivial (fun hHeld => ?_); refine with_tabW laws_FnTables.tab19 laws_FnTables.bits19 (fun HT_ HW_ => ?_)
         generalize wr.drew = w83 at a2 a1 a3 a8 HB q4 hHeld ⊢
         refine pu_ HT_ 1 134 (bs_ 13 2) ?_
         refine inv_at [0, 2, 3, 4, 5, 6, 7, 8, 9, 10, 11, 12] (fun a0_ b a w' => ∃ (d3 : Nat) (g5 : Value), a = putSel a0_ b [(0, 133, .agg #[.slice (some c8) a7.length h7, .slice h8 a6.length c5]), (2, 135, .slice (some c8) a7.length h7), (3, 136, .pointer (some c8)), (4, 137, .int .i64 (rd a7 0)), (5, 138, .int .i64 (wrap64 ((rd a7 0) - 5))), (6, 139, .tuple #[.agg #[.int .i64 n1, .int .i64 n5], .bool o4]), (7, 132, .tuple #[.agg #[.int .i64 n1, .int .i64 n5], .bool o4]), (8, 140, .agg #[.int .i64 n1, .int .i64 n5]), (9, 141, .bool o4), (10, 12, g5), (12, 13, .bool o4)] ∧ (Kd.R (Kd.int .i64) 3 w' w.heap.size (fun k_ => some k_ ≠ (.slice h8 a6.length c5 : Value).ownBlock) (.slice (some c8) a7.length h7) a7) ∧ (Kd.R (Kd.int .i64) 3 w' w.heap.size (fun k_ => some k_ ≠ (.slice (some c8) a7.length h7 : Value).ownBlock) (.slice h8 a6.length c5) a6) ∧ (w'.heap[c4]? = some (.cells #[.slice (some c8) a7.length h7, .slice h8 a6.length c5] 51 (0, 0))) ∧ (w'.heap[h3]? = some (.cells #[.int .i64 l1, .int .i64 l4] 48 (0, 0))) ∧ (Below w.heap.size w w') ∧ (b 10 = true → b 11 = false → w'.heap[d3]? = some (.cells #[.int .i64 0, .int .i64 0] 48 (0, 0))) ∧ (b 10 = true → w.heap.size ≤ d3) ∧ (b 10 = true → w.heap.size ≤ d3) ∧ (b 10 = true → c4 ≠ d3) ∧ (b 10 = true → d3 ≠ c4) ∧ (b 10 = true → h3 ≠ d3) ∧ (b 10 = true → d3 ≠ h3) ∧ (b 11 = true → w'.heap[d3]? = some (.cells #[.int .i64 n1, .int .i64 n5] 48 (0, 0))) ∧ (b 10 = true → (g5 : Value) = .pointer (some ⟨d3, 0, none⟩))) HT_.out HW_.out (by kernel_rfl) (by kernel_rfl) ?_ ?_ ?_
         ·exact ⟨0, .bool false, by simp only [putSel, Bool.false_eq_true, if_false], a2.out, a1.out, a3.out, a8.out, HB.out, fun h_ => absurd h_ (by decide), fun h_ => absurd h_ (by decide), fun h_ => absurd h_ (by decide), fun h_ => absurd h_ (by decide), fun h_ => absurd h_ (by decide), fun h_ => absurd h_ (by decide), fun h_ => absurd h_ (by decide), fun h_ => absurd h_ (by decide), fun h_ => absurd h_ (by decide)⟩
         ·skip
          clear a3 a8 HB a2 a1
          refine steps_cons ?_ ?_
          ·rintro b a w' ⟨d3, g5, ha, a4, a5, a9, b0, Q_HB, g2, d5, d6, b1, b2, b3, b4, d0, c1⟩ hb_ hon hoff
           refine ⟨_, rfl, fun K hK => ?_⟩
           have e3 : a.tmps[3]? = some (.pointer (some ⟨c4, 0, none⟩)) := by rw [ha]; exact (putSel_off rfl).trans rfl
           replace ha := mk_ ha
           have a2 := mk_ a4; have a1 := mk_ a5; have a3 := mk_ a9; have a8 := mk_ b0; have HB := mk_ Q_HB
           have hc0_ : w'.cell? ⟨c4, 0, none⟩ = some (.slice (some c8) a7.length h7) := bc0_ a3
           have hc1_ : w'.cell? ⟨c4, 1, none⟩ = some (.slice h8 a6.length c5) := bc1_ a3
           refine value_ (w1 := w') (v := .agg #[.slice (some c8) a7.length h7, .slice h8 a6.length c5]) (by rfl) rfl ?_ ?_
           ·go_simp
            (try simp only [i64_w])
            try rfl
           refine hK.out _ _ ⟨d3, g5, (by rw [ha.out]; exact putSel_upk 0 hb_ rfl rfl rfl), a4, a5, a9, b0, Q_HB, g2, d5, d6, b1, b2, b3, b4, of_ (hoff 11 (by kernel_rfl)), c1⟩
          refine steps_cons ?_ ?_
          ·rintro b a w' ⟨d3, g5, ha, a4, a5, a9, b0, Q_HB, g2, d5, d6, b1, b2, b3, b4, d0, c1⟩ hb_ hon hoff
           refine ⟨_, rfl, fun K hK => ?_⟩
           have aj2 : a.tmps[134]? = some (.pointer (some ⟨c4, 0, none⟩)) := by rw [ha]; exact (putSel_off rfl).trans rfl
           replace ha := mk_ ha
           have a2 := mk_ a4; have a1 := mk_ a5; have a3 := mk_ a9; have a8 := mk_ b0; have HB := mk_ Q_HB
           have hc0_ : w'.cell? ⟨c4, 0, none⟩ = some (.slice (some c8) a7.length h7) := bc0_ a3
           have hc1_ : w'.cell? ⟨c4, 1, none⟩ = some (.slice h8 a6.length c5) := bc1_ a3
           refine value_ (w1 := w') (v := .slice (some c8) a7.length h7) (by rfl) rfl ?_ ?_
           ·go_simp
            (try simp only [i64_w])
            try rfl
           refine hK.out _ _ ⟨d3, g5, (by rw [ha.out]; exact putSel_upk 1 hb_ rfl rfl rfl), a4, a5, a9, b0, Q_HB, g2, d5, d6, b1, b2, b3, b4, of_ (hoff 11 (by kernel_rfl)), c1⟩
          refine steps_cons ?_ ?_
          ·rintro b a w' ⟨d3, g5, ha, a4, a5, a9, b0, Q_HB, g2, d5, d6, b1, b2, b3, b4, d0, c1⟩ hb_ hon hoff
           refine ⟨_, rfl, fun K hK => ?_⟩
           have aj3 : a.tmps[135]? = some (.slice (some c8) a7.length h7) := by rw [ha]; exact putSel_on (e := (2, 135, .slice (some c8) a7.length h7)) 1 rfl rfl (hon 2 (by kernel_rfl)) rfl
           replace ha := mk_ ha
           have a2 := mk_ a4; have a1 := mk_ a5; have a3 := mk_ a9; have a8 := mk_ b0; have HB := mk_ Q_HB
           refine value_ (w1 := w') (v := .pointer (some c8)) (by rfl) rfl ?_ ?_
           ·go_simp
            (try simp only [i64_w])
            try rfl
           refine hK.out _ _ ⟨d3, g5, (by rw [ha.out]; exact putSel_upk 2 hb_ rfl rfl rfl), a4, a5, a9, b0, Q_HB, g2, d5, d6, b1, b2, b3, b4, of_ (hoff 11 (by kernel_rfl)), c1⟩
          refine steps_cons ?_ ?_
          ·rintro b a w' ⟨d3, g5, ha, a4, a5, a9, b0, Q_HB, g2, d5, d6, b1, b2, b3, b4, d0, c1⟩ hb_ hon hoff
           refine ⟨_, rfl, fun K hK => ?_⟩
           have aj4 : a.tmps[136]? = some (.pointer (some c8)) := by rw [ha]; exact putSel_on (e := (3, 136, .pointer (some c8))) 2 rfl rfl (hon 3 (by kernel_rfl)) rfl
           replace ha := mk_ ha
           have a2 := mk_ a4; have a1 := mk_ a5; have a3 := mk_ a9; have a8 := mk_ b0; have HB := mk_ Q_HB; obtain ⟨ad299_z, e299_z, hx299_0_z⟩ := Kd.at_int (rr_ a2) 0 (of_eq_true E6) (of_eq_true E7)
           cases e299_z
           have ab6 : w'.cell? c8 = some (.int .i64 (rd a7 0)) := (by first | exact hx299_0_z | (have h_ := hx299_0_z; (try simp only [Int.reduceToNat, Nat.zero_mul, Nat.reduceMul, Nat.reduceEqDiff, Go.Addr.add, ↓reduceIte, Addr.add_zero'] at h_); exact h_))
           refine value_ (w1 := w') (v := .int .i64 (rd a7 0)) (by rfl) rfl ?_ ?_
           ·go_simp
            (try simp only [i64_w])
            try rfl
           refine hK.out _ _ ⟨d3, g5, (by rw [ha.out]; exact putSel_upk 3 hb_ rfl rfl rfl), a4, a5, a9, b0, Q_HB, g2, d5, d6, b1, b2, b3, b4, of_ (hoff 11 (by kernel_rfl)), c1⟩
          refine steps_cons ?_ ?_
          ·rintro b a w' ⟨d3, g5, ha, a4, a5, a9, b0, Q_HB, g2, d5, d6, b1, b2, b3, b4, d0, c1⟩ hb_ hon hoff
           refine ⟨_, rfl, fun K hK => ?_⟩
           have aj5 : a.tmps[137]? = some (.int .i64 (rd a7 0)) := by rw [ha]; exact putSel_on (e := (4, 137, .int .i64 (rd a7 0))) 3 rfl rfl (hon 4 (by kernel_rfl)) rfl
           replace ha := mk_ ha
           have a2 := mk_ a4; have a1 := mk_ a5; have a3 := mk_ a9; have a8 := mk_ b0; have HB := mk_ Q_HB
           refine value_ (w1 := w') (v := .int .i64 (wrap64 ((rd a7 0) - 5))) (by rfl) rfl ?_ ?_
           ·go_simp
            (try simp only [i64_w])
            try rfl
           refine hK.out _ _ ⟨d3, g5, (by rw [ha.out]; exact putSel_upk 4 hb_ rfl rfl rfl), a4, a5, a9, b0, Q_HB, g2, d5, d6, b1, b2, b3, b4, of_ (hoff 11 (by kernel_rfl)), c1⟩
          refine steps_cons ?_ ?_
          ·rintro b a w' ⟨d3, g5, ha, a4, a5, a9, b0, Q_HB, g2, d5, d6, b1, b2, b3, b4, d0, c1⟩ hb_ hon hoff
           refine ⟨_, rfl, fun K hK => ?_⟩
           have L4 : a.tmps[133]? = some (.agg #[.slice (some c8) a7.length h7, .slice h8 a6.length c5]) := by rw [ha]; exact putSel_on (e := (0, 133, .agg #[.slice (some c8) a7.length h7, .slice h8 a6.length c5])) 0 rfl rfl (hon 0 (by kernel_rfl)) rfl
           have L5 : a.tmps[138]? = some (.int .i64 (wrap64 ((rd a7 0) - 5))) := by rw [ha]; exact putSel_on (e := (5, 138, .int .i64 (wrap64 ((rd a7 0) - 5)))) 4 rfl rfl (hon 5 (by kernel_rfl)) rfl
           replace ha := mk_ ha
           have a2 := mk_ a4; have a1 := mk_ a5; have a3 := mk_ a9; have a8 := mk_ b0; have HB := mk_ Q_HB
           refine goes_ Try.func33 (by kernel_rfl) rfl #[.agg #[.slice (some c8) a7.length h7, .slice h8 a6.length c5], .int .i64 (wrap64 ((rd a7 0) - 5))] (by rfl) rfl rfl (by first | (simp only [List.map_toArray, List.map_cons, List.map_nil, Act.eval, Array.getD_eq_getD_getElem?, Option.getD_some, L4, L5]; done) | (simp only [List.map_toArray, List.map_cons, List.map_nil, Act.eval, Array.getD_eq_getD_getElem?, Option.getD_some, L4, L5]; rfl)) ?_
           with_reducible refine (impl_Held.calls k2 _ _ a7 _ _ a6 (wrap64 ((rd a7 0) - 5)) n1 n5 o4 _ ?g8 ?g9 ?j1 ?j7 A79.out).mono ?_
           (case g8 => exact cw_ (rr_ a2))
           (case g9 => exact (Kd.R_reads' a2.out).2.1)
           (case j1 => exact cw_ (rr_ a1))
           (case j7 => exact (Kd.R_reads' a1.out).2.1)
           rintro e w84 ⟨rfl, hb⟩
           refine ⟨_, rfl, ?_⟩
           have s4 := rk_ a2 hb
           have s5 := rk_ a1 hb
           have s6 := bk_ a3 hb
           have s7 := bk_ a8 hb
           have s8 := hk_ HB hb
           have E8 := fun (h0_ : b 10 = true) (C7 : b 11 = false) => (show w84.heap[d3]? = some (.cells #[.int .i64 0, .int .i64 0] 48 (0, 0)) from by first | exact (blk_below (g := d3) (o := .cells #[.int .i64 0, .int .i64 0] 48 (0, 0)) (by (with_reducible repeat (first | refine blk_drewN ?_ _ | refine blk_drew ?_ | refine blk_alloc ?_ _)); exact (g2 h0_ C7)) hb))
           clear a2; clear a1; clear a3; clear a8; clear HB
           have a2 := s4
           have a1 := s5
           have a3 := s6
           have a8 := s7
           have HB := s8
           clear s4 s5 s6 s7 s8; (try clear hb); (try clear A7); (try clear hk); (try clear hi)
           refine hK.out _ _ ⟨d3, g5, (by rw [ha.out]; exact putSel_upk 5 hb_ rfl rfl rfl), (kx_ a2), (kx_ a1), (bx_ a3), (bx_ a8), (hw_ HB), E8, d5, d6, b1, b2, b3, b4, of_ (hoff 11 (by kernel_rfl)), c1⟩
          refine steps_cons ?_ ?_
          ·rintro b a w' ⟨d3, g5, ha, a4, a5, a9, b0, Q_HB, g2, d5, d6, b1, b2, b3, b4, d0, c1⟩ hb_ hon hoff
           refine ⟨_, rfl, fun K hK => ?_⟩
           have aj6 : a.tmps[139]? = some (.tuple #[.agg #[.int .i64 n1, .int .i64 n5], .bool o4]) := by rw [ha]; exact putSel_on (e := (6, 139, .tuple #[.agg #[.int .i64 n1, .int .i64 n5], .bool o4])) 5 rfl rfl (hon 6 (by kernel_rfl)) rfl
           replace ha := mk_ ha
           have a2 := mk_ a4; have a1 := mk_ a5; have a3 := mk_ a9; have a8 := mk_ b0; have HB := mk_ Q_HB
           refine value_ (w1 := w') (v := .tuple #[.agg #[.int .i64 n1, .int .i64 n5], .bool o4]) (by rfl) rfl ?_ ?_
           ·go_simp
            (try simp only [i64_w])
            try rfl
           refine hK.out _ _ ⟨d3, g5, (by rw [ha.out]; exact putSel_upk 6 hb_ rfl rfl rfl), a4, a5, a9, b0, Q_HB, g2, d5, d6, b1, b2, b3, b4, of_ (hoff 11 (by kernel_rfl)), c1⟩
          refine steps_cons ?_ ?_
          ·rintro b a w' ⟨d3, g5, ha, a4, a5, a9, b0, Q_HB, g2, d5, d6, b1, b2, b3, b4, d0, c1⟩ hb_ hon hoff
           refine ⟨_, rfl, fun K hK => ?_⟩
           have ac2 : a.tmps[132]? = some (.tuple #[.agg #[.int .i64 n1, .int .i64 n5], .bool o4]) := by rw [ha]; exact putSel_on (e := (7, 132, .tuple #[.agg #[.int .i64 n1, .int .i64 n5], .bool o4])) 6 rfl rfl (hon 7 (by kernel_rfl)) rfl
           replace ha := mk_ ha
           have a2 := mk_ a4; have a1 := mk_ a5; have a3 := mk_ a9; have a8 := mk_ b0; have HB := mk_ Q_HB
           refine value_ (w1 := w') (v := .agg #[.int .i64 n1, .int .i64 n5]) (by rfl) rfl ?_ ?_
           ·go_simp
            (try simp only [i64_w])
            try rfl
           refine hK.out _ _ ⟨d3, g5, (by rw [ha.out]; exact putSel_upk 7 hb_ rfl rfl rfl), a4, a5, a9, b0, Q_HB, g2, d5, d6, b1, b2, b3, b4, of_ (hoff 11 (by kernel_rfl)), c1⟩
          refine steps_cons ?_ ?_
          ·rintro b a w' ⟨d3, g5, ha, a4, a5, a9, b0, Q_HB, g2, d5, d6, b1, b2, b3, b4, d0, c1⟩ hb_ hon hoff
           refine ⟨_, rfl, fun K hK => ?_⟩
           have ac2 : a.tmps[132]? = some (.tuple #[.agg #[.int .i64 n1, .int .i64 n5], .bool o4]) := by rw [ha]; exact putSel_on (e := (7, 132, .tuple #[.agg #[.int .i64 n1, .int .i64 n5], .bool o4])) 6 rfl rfl (hon 7 (by kernel_rfl)) rfl
           replace ha := mk_ ha
           have a2 := mk_ a4; have a1 := mk_ a5; have a3 := mk_ a9; have a8 := mk_ b0; have HB := mk_ Q_HB
           refine value_ (w1 := w') (v := .bool o4) (by rfl) rfl ?_ ?_
           ·go_simp
            (try simp only [i64_w])
            try rfl
           refine hK.out _ _ ⟨d3, g5, (by rw [ha.out]; exact putSel_upk 8 hb_ rfl rfl rfl), a4, a5, a9, b0, Q_HB, g2, d5, d6, b1, b2, b3, b4, d0, c1⟩
          refine steps_cons ?_ ?_
          ·rintro b a w' ⟨d3, g5, ha, a4, a5, a9, b0, Q_HB, g2, d5, d6, b1, b2, b3, b4, d0, c1⟩ hb_ hon hoff
           refine ⟨_, rfl, fun K hK => ?_⟩
           replace ha := mk_ ha
           have a2 := mk_ a4; have a1 := mk_ a5; have a3 := mk_ a9; have a8 := mk_ b0; have HB := mk_ Q_HB
           refine box_step ?hg (N := 12) ?hd (cs := #[.int .i64 0, .int .i64 0]) (t := 48) ?hr ?_; (case hd => rfl); (case hg => rfl); (case hr => exact hr_)
           intro d3 hg w84 hbox hb
           replace a2 := rk_ a2 hb; replace a1 := rk_ a1 hb; have l3 := mk_ (hbox); have t6 := gk_ hg HB; have q0 := gk_ hg HB; replace HB := hk_ HB hb; have l8 := nk_ hg a3; have m7 := nj_ hg a3; replace a3 := bk_ a3 hb; have l9 := nk_ hg a8; have m8 := nj_ hg a8; replace a8 := bk_ a8 hb
           clear hb hbox hg
           refine hK.out _ _ ⟨d3, (.pointer (some ⟨d3, 0, none⟩)), (by rw [ha.out]; exact putSel_upk 9 hb_ rfl rfl rfl), (kx_ a2), (kx_ a1), (bx_ a3), (bx_ a8), (hw_ HB), fun _ _ => (bx_ l3), fun _ => t6.out, fun _ => q0.out, fun _ => l8.out, fun _ => m7.out, fun _ => l9.out, fun _ => m8.out, of_ (hoff 11 (by kernel_rfl)), fun _ => rfl⟩
          refine steps_cons ?_ ?_
          ·rintro b a w' ⟨d3, g5, ha, a4, a5, a9, b0, Q_HB, g2, d5, d6, b1, b2, b3, b4, d0, c1⟩ hb_ hon hoff
           refine ⟨_, rfl, fun K hK => ?_⟩
           have e12 : a.tmps[12]? = some (g5) := by rw [ha]; exact putSel_on (e := (10, 12, g5)) 9 rfl rfl (hon 10 (by kernel_rfl)) rfl
           rw [c1 (hon 10 (by kernel_rfl))] at e12
           have aj7 : a.tmps[140]? = some (.agg #[.int .i64 n1, .int .i64 n5]) := by rw [ha]; exact putSel_on (e := (8, 140, .agg #[.int .i64 n1, .int .i64 n5])) 7 rfl rfl (hon 8 (by kernel_rfl)) rfl
           replace ha := mk_ ha
           have a2 := mk_ a4; have a1 := mk_ a5; have a3 := mk_ a9; have a8 := mk_ b0; have HB := mk_ Q_HB; have l3 := mk_ (g2 (hon 10 (by kernel_rfl)) hb_); have t6 := mk_ (d5 (hon 10 (by kernel_rfl))); have q0 := mk_ (d6 (hon 10 (by kernel_rfl))); have l8 := mk_ (b1 (hon 10 (by kernel_rfl))); have m7 := mk_ (b2 (hon 10 (by kernel_rfl))); have l9 := mk_ (b3 (hon 10 (by kernel_rfl))); have m8 := mk_ (b4 (hon 10 (by kernel_rfl)))
           have aj8 : w'.cell? ⟨d3, 0, none⟩ = some (.int .i64 0) := bc0_ l3
           have ai3 := blk_frozen l3.out 0
           have aa4 := l8.out; have aa5 := l9.out
           have aa6 := m7.out; have aa7 := m8.out
           have aj9 : w'.cell? ⟨d3, 1, none⟩ = some (.int .i64 0) := bc1_ l3
           have ai4 := blk_frozen l3.out 1
           have aa8 := l8.out; have aa9 := l9.out
           have ab0 := m7.out; have ab1 := m8.out
           refine skip_ (w1 := ?_) (by rfl) rfl ?_ ?_
           rotate_left
           ·go_simp
            rfl
           refine hK.out _ _ ⟨d3, g5, (by rw [ha.out]; exact putSel_none (v := undef) rfl), (by (with_reducible repeat (first | apply Kd.R_alloc | apply Kd.R_drewN | apply Kd.R_drew)); exact Kd.R_mono (Kd.R_far (p := ⟨d3, 1, none⟩) (Kd.R_far (p := ⟨d3, 0, none⟩) (Kd.R_types a2.out l3.out (by decide)) (fun _ hk => hk.2) (.int .i64 n1)) (fun _ hk => hk.2) (.int .i64 n5)) (fun _ hk => hk.1)), (by (with_reducible repeat (first | apply Kd.R_alloc | apply Kd.R_drewN | apply Kd.R_drew)); exact Kd.R_mono (Kd.R_far (p := ⟨d3, 1, none⟩) (Kd.R_far (p := ⟨d3, 0, none⟩) (Kd.R_types a1.out l3.out (by decide)) (fun _ hk => hk.2) (.int .i64 n1)) (fun _ hk => hk.2) (.int .i64 n5)) (fun _ hk => hk.1)), (by (with_reducible repeat (first | refine blk_drewN ?_ _ | refine blk_drew ?_ | refine blk_alloc ?_ _)); refine blk_far ?_ l8.out _; (with_reducible repeat (first | refine blk_drewN ?_ _ | refine blk_drew ?_ | refine blk_alloc ?_ _)); refine blk_far ?_ l8.out _; (with_reducible repeat (first | refine blk_drewN ?_ _ | refine blk_drew ?_ | refine blk_alloc ?_ _)); exact a3.out), (by (with_reducible repeat (first | refine blk_drewN ?_ _ | refine blk_drew ?_ | refine blk_alloc ?_ _)); refine blk_far ?_ l9.out _; (with_reducible repeat (first | refine blk_drewN ?_ _ | refine blk_drew ?_ | refine blk_alloc ?_ _)); refine blk_far ?_ l9.out _; (with_reducible repeat (first | refine blk_drewN ?_ _ | refine blk_drew ?_ | refine blk_alloc ?_ _)); exact a8.out), (by repeat (first | (with_reducible first | exact HB.out | apply below_alloc | apply pw_below_drewN | apply below_drew1 | refine below_set ?_ q0.out) | exact HB.out)), fun _ C7 => absurd ((up_self b 11).symm.trans C7) (by decide), fun _ => t6.out, fun _ => q0.out, fun _ => l8.out, fun _ => m7.out, fun _ => l9.out, fun _ => m8.out, fun _ => (by (with_reducible repeat (first | refine blk_drewN ?_ _ | refine blk_drew ?_ | refine blk_alloc ?_ _)); refine blk_put (cs := #[.int .i64 n1, .int .i64 0]) ?_ 1 _ rfl; (with_reducible repeat (first | refine blk_drewN ?_ _ | refine blk_drew ?_ | refine blk_alloc ?_ _)); refine blk_put (cs := #[.int .i64 0, .int .i64 0]) ?_ 0 _ rfl; (with_reducible repeat (first | refine blk_drewN ?_ _ | refine blk_drew ?_ | refine blk_alloc ?_ _)); exact l3.out), c1⟩
          refine steps_cons ?_ ?_
          ·rintro b a w' ⟨d3, g5, ha, a4, a5, a9, b0, Q_HB, g2, d5, d6, b1, b2, b3, b4, d0, c1⟩ hb_ hon hoff
           refine ⟨_, rfl, fun K hK => ?_⟩
           have ak0 : a.tmps[141]? = some (.bool o4) := by rw [ha]; exact putSel_on (e := (9, 141, .bool o4)) 8 rfl rfl (hon 9 (by kernel_rfl)) rfl
           replace ha := mk_ ha
           have a2 := mk_ a4; have a1 := mk_ a5; have a3 := mk_ a9; have a8 := mk_ b0; have HB := mk_ Q_HB; have t6 := mk_ (d5 (hon 10 (by kernel_rfl))); have q0 := mk_ (d6 (hon 10 (by kernel_rfl))); have l8 := mk_ (b1 (hon 10 (by kernel_rfl))); have m7 := mk_ (b2 (hon 10 (by kernel_rfl))); have l9 := mk_ (b3 (hon 10 (by kernel_rfl))); have m8 := mk_ (b4 (hon 10 (by kernel_rfl))); have l3 := mk_ (d0 (hon 11 (by kernel_rfl)))
           refine value_ (w1 := w') (v := .bool o4) (by rfl) rfl ?_ ?_
           ·go_simp
            (try simp only [i64_w])
            try rfl
           refine hK.out _ _ ⟨d3, g5, (by rw [ha.out]; exact putSel_upk 10 hb_ rfl rfl rfl), a4, a5, a9, b0, Q_HB, fun _ C7 => absurd ((hon 11 (by kernel_rfl)).symm.trans C7) (by decide), d5, d6, b1, b2, b3, b4, d0, c1⟩
          exact steps_nil
         rintro b a w88 hall ⟨d3, g5, ha, a4, a5, a9, b0, Q_HB, g2, d5, d6, b1, b2, b3, b4, d0, c1⟩
         clear a3 a8 HB a2 a1
         have C8 := hall 0 (by kernel_rfl)
         have C9 := hall 2 (by kernel_rfl)
         have L6 := hall 3 (by kernel_rfl)
         have D0 := hall 4 (by kernel_rfl)
         have D1 := hall 5 (by kernel_rfl)
         have D2 := hall 6 (by kernel_rfl)
         have D3 := hall 7 (by kernel_rfl)
         have D4 := hall 8 (by kernel_rfl)
         have D5 := hall 9 (by kernel_rfl)
         have m4 := hall 10 (by kernel_rfl)
         have p4 := hall 11 (by kernel_rfl)
         have t0 := hall 12 (by kernel_rfl)
         subst ha
         obtain rfl := c1 m4
         simp only [putSel, C8, C9, L6, D0, D1, D2, D3, D4, D5, m4, p4, t0, if_true, Act.put, List.setIfInBounds_toArray, List.set_cons_zero, List.set_cons_succ]
         have a2 := mk_ a4; clear a4; have a1 := mk_ a5; clear a5; have a3 := mk_ a9; clear a9; have a8 := mk_ b0; clear b0; have HB := mk_ Q_HB; clear Q_HB; clear g2; have t6 := mk_ (d5 m4); clear d5; have q0 := mk_ (d6 m4); clear d6; have l8 := mk_ (b1 m4); clear b1; have m7 := mk_ (b2 m4); clear b2; have l9 := mk_ (b3 m4); clear b3; have m8 := mk_ (b4 m4); clear b4; have l3 := mk_ (d0 p4); clear d0; clear hall C8 C9 L6 D0 D1 D2 D3 D4 D5 m4 p4 t0
         go_upto_region 20 with (fail)
         go_cut [153] (fun v153 wc => ∃ (kq : Nat) (p1 : Bool), v153 = .bool p1 ∧ Aside0 (laws_FnTables.j6 kq p1 a7 a6 = some r) ∧ Aside0 (kq ≤ k2) ∧ Aside0 (Kd.R (Kd.int .i64) 3 wc w.heap.size (fun k_ => some k_ ≠ ((.slice h8 a6.length c5) : Value).ownBlock) (.slice (some c8) a7.length h7) a7) ∧ Aside0 (Kd.R (Kd.int .i64) 3 wc w.heap.size (fun k_ => some k_ ≠ ((.slice (some c8) a7.length h7) : Value).ownBlock) (.slice h8 a6.length c5) a6) ∧ Aside0 (wc.heap[c4]? = some (.cells #[(.slice (some c8) a7.length h7), (.slice h8 a6.length c5)] 51 (0, 0))) ∧ Aside0 (wc.heap[d3]? = some (.cells #[.int .i64 n1, .int .i64 n5] 48 (0, 0))) ∧ Aside0 (Below w.heap.size w wc))
         case first => as_aux_lemma =>
          have H := H2.out; clear H2; by_cases c89 : 0 < (a6.length : Int)
          ·rw [if_pos c89] at H; have F5 : decide (0 < (a6.length : Int)) = true := decide_eq_true c89; have ai5 : decide (0 < a6.length) = true := decide_eq_true (by omega); clear c89
           (first | rw [F5] | (simp only [i64_w, i32_w]; rw [F5]) | skip)
           by_cases H3 : n1 = (rd a6 0)
           ·rw [if_pos H3] at H; have L7 : (n1 == (rd a6 0)) = true := beq_iff_eq.mpr H3; have L8 : (n1 != (rd a6 0)) = false := bne_eq_false_iff_eq.mpr H3; clear H3
            have H' := mk_ H
            clear H
            try go_wp2
            replace a2 := dR_ a2; replace a1 := dR_ a1; replace a3 := dB_ a3; replace l3 := dB_ l3; replace HB := dH_ HB
            have B0 : 0 ≤ (0 : Int) := (by omega)
            have B1 : 0 < (a6.length : Int) := od_
            obtain ⟨t7, H4, n3⟩ := Kd.at_int (rr_ a1) 0 B0 B1; cases H4
            have qi304 : (0 < a6.length) = True := eq_true (by omega)
            (try rw [show ((0 : Int)).toNat = 0 from rfl] at n3)
            (try rw [Addr.add_zero'] at n3)
            replace B0 := eq_true B0; replace B1 := eq_true B1
            refine start_ (n := 12) (S := fun w' => w'.cell? ⟨d3, 0, none⟩ = some (.int .i64 n1) ∧ w'.cell? ⟨d3, 1, none⟩ = some (.int .i64 n5) ∧ w'.cell? ⟨c4, 0, none⟩ = some (.slice (some c8) a7.length h7) ∧ w'.cell? ⟨c4, 1, none⟩ = some (.slice (some t7) a6.length c5) ∧ w'.cell? t7 = some (.int .i64 (rd a6 0))) (ds := []) (bs_ 12 0) (by kernel_rfl) rfl (by kernel_rfl) ⟨bc0_ l3, bc1_ l3, bc0_ a3, bc1_ a3, n3⟩ (fun hHeld => ?_); refine with_tabW laws_FnTables.tab20 laws_FnTables.bits20 (fun HT_ HW_ => ?_)
            generalize w88.drew = w91 at a2 a1 a3 l3 HB n3 hHeld ⊢
            refine pu_ HT_ 0 142 (bs_ 12 1) ?_; refine pu_ HT_ 2 144 (bs_ 12 5) ?_; refine tk_ HT_ HW_ 1 143 (bs_ 12 7) hHeld ?_; refine tk_ HT_ HW_ 3 145 (bs_ 12 15) hHeld ?_; refine pu_ HT_ 4 146 (bs_ 12 31) ?_; refine tk_ HT_ HW_ 5 147 (bs_ 12 63) hHeld ?_; refine pu_ HT_ 6 148 (bs_ 12 127) ?_; refine pu_ HT_ 7 149 (bs_ 12 255) ?_; refine pu_ HT_ 8 150 (bs_ 12 511) ?_; refine tk_ HT_ HW_ 9 151 (bs_ 12 1023) hHeld ?_; refine pu_ HT_ 10 152 (bs_ 12 2047) ?_; refine pu_ HT_ 11 153 (bs_ 12 4095) ?_
            refine done_ (done_of HT_.out (by kernel_rfl)) ?_
            try go_wp2
            go_meet
            case rel => exact ⟨_, ((n5 != 1)), rf_, H', ⟨by have := A3.out; have := A6.out; first | omega | exact Nat.le_refl _⟩, kw_ a2, kw_ a1, bw_ a3, bw_ l3, ⟨hw_ HB⟩⟩
           ·rw [if_neg H3] at H; have L7 : (n1 == (rd a6 0)) = false := beq_eq_false_iff_ne.mpr H3; have L8 : (n1 != (rd a6 0)) = true := bne_iff_ne.mpr H3
            have H' := mk_ H
            clear H
            try go_wp2
            replace a2 := dR_ a2; replace a1 := dR_ a1; replace a3 := dB_ a3; replace l3 := dB_ l3; replace HB := dH_ HB
            have B0 : 0 ≤ (0 : Int) := (by omega)
            have B1 : 0 < (a6.length : Int) := od_
            obtain ⟨t7, H4, n3⟩ := Kd.at_int (rr_ a1) 0 B0 B1; cases H4
            have qi304 : (0 < a6.length) = True := eq_true (by omega)
            (try rw [show ((0 : Int)).toNat = 0 from rfl] at n3)
            (try rw [Addr.add_zero'] at n3)
            replace B0 := eq_true B0; replace B1 := eq_true B1
            refine start_ (n := 12) (S := fun w' => w'.cell? ⟨d3, 0, none⟩ = some (.int .i64 n1) ∧ w'.cell? ⟨d3, 1, none⟩ = some (.int .i64 n5) ∧ w'.cell? ⟨c4, 0, none⟩ = some (.slice (some c8) a7.length h7) ∧ w'.cell? ⟨c4, 1, none⟩ = some (.slice (some t7) a6.length c5) ∧ w'.cell? t7 = some (.int .i64 (rd a6 0))) (ds := []) (bs_ 12 0) (by kernel_rfl) rfl (by kernel_rfl) ⟨bc0_ l3, bc1_ l3, bc0_ a3, bc1_ a3, n3⟩ (fun hHeld => ?_); refine with_tabW laws_FnTables.tab20 laws_FnTables.bits20 (fun HT_ HW_ => ?_)
            generalize w88.drew = w92 at a2 a1 a3 l3 HB n3 hHeld ⊢
            refine pu_ HT_ 0 142 (bs_ 12 1) ?_; refine pu_ HT_ 2 144 (bs_ 12 5) ?_; refine tk_ HT_ HW_ 1 143 (bs_ 12 7) hHeld ?_; refine tk_ HT_ HW_ 3 145 (bs_ 12 15) hHeld ?_; refine pu_ HT_ 4 146 (bs_ 12 31) ?_; refine tk_ HT_ HW_ 5 147 (bs_ 12 63) hHeld ?_; refine pu_ HT_ 6 148 (bs_ 12 127) ?_; refine pu_ HT_ 7 149 (bs_ 12 255) ?_; refine pn_ HT_ 8 150 (bs_ 12 511) ?_; refine pn_ HT_ 9 151 (bs_ 12 1023) ?_; refine pn_ HT_ 10 152 (bs_ 12 2047) ?_; refine pu_ HT_ 11 153 (bs_ 12 4095) ?_
            refine done_ (done_of HT_.out (by kernel_rfl)) ?_
            try go_wp2
            go_meet
            case rel => exact ⟨_, (true), rf_, H', ⟨by have := A3.out; have := A6.out; first | omega | exact Nat.le_refl _⟩, kw_ a2, kw_ a1, bw_ a3, bw_ l3, ⟨hw_ HB⟩⟩
          ·rw [if_neg c89] at H
           exact absurd H (by simp)
         case rest => as_aux_lemma =>
          clear H2; (try clear c3)
          obtain ⟨kq, p1, rfl, HA, ak1, a2, a1, a3, l3, HB⟩ := hcut
          cases kq with
          | zero => exact absurd HA.out (by simp [laws_FnTables.j6])
          | succ kj79 =>
           have H := HA.out; clear HA
           simp only [laws_FnTables.j6] at H
           by_cases c93 : p1 = true
           ·subst c93; rw [if_pos rfl] at H
            obtain rfl := Option.some.inj H; go_wp2
            go_ret
            exact ⟨re_, hw_ HB⟩
           ·replace c93 := Bool.eq_false_iff.mpr c93; subst c93; rw [if_neg (show ¬ (false = true) by decide)] at H
            obtain ⟨g0, o3⟩ : ∃ j_ : Int, (wrap64 ((a6.length : Int) / 2)) = j_ := ⟨_, rfl⟩
            replace H : (if 0 ≤ (g0) then (if (g0) < (a6.length : Int) then ((impl_Find.f kj79 a7 a6 (rd a6 (g0))).bind fun p2 => (if p2.2 = true then ((impl_At.f kj79 a7 a6 p2.1).bind fun q6 => ((impl_At.f kj79 a7 a6 (wrap64 (p2.1 - 1))).bind fun p3 => (if q6.1 ≥ (wrap64 ((rd a6 (g0)) * q6.2.1)) then (if p3.2.2 = true then (some (decide (p3.1 < (wrap64 ((rd a6 (g0)) * p3.2.1))))) else (some true)) else (some false)))) else (some false))) else (none)) else (none)) = some r := by first | (rw [o3] at H; exact H) | (simp only [o3] at H ⊢; exact H)
            have hji94w : (IntKind.i64.wrap ((a6.length : Int) / 2)) = g0 := (i64_w _).trans o3
            by_cases c95 : 0 ≤ (g0)
            ·rw [if_pos c95] at H; have ai6 : decide (0 ≤ (g0)) = true := decide_eq_true c95; clear c95; by_cases c96 : (g0) < (a6.length : Int)
             ·rw [if_pos c96] at H; have ai7 : decide ((g0) < (a6.length : Int)) = true := decide_eq_true c96; clear c96; replace H := Option.bind_eq_some_iff.mp H; obtain ⟨⟨o5, ac3⟩, L9, H⟩ := H; (try dsimp only at H); have A97 := mk_ L9; clear L9; by_cases c98 : ac3 = true
              ·subst c98; rw [if_pos rfl] at H
               replace H := Option.bind_eq_some_iff.mp H; obtain ⟨⟨m3, m9, H5⟩, M0, H⟩ := H
               (try dsimp only at H); have A99 := mk_ M0; clear M0
               replace H := Option.bind_eq_some_iff.mp H; obtain ⟨⟨l2, m0, M1⟩, F6, H⟩ := H
               (try dsimp only at H); have H6 := mk_ F6; clear F6
               by_cases C2 : m3 ≥ (wrap64 ((rd a6 (g0)) * m9))
               ·rw [if_pos C2] at H; have H7 : decide ((wrap64 ((rd a6 (g0)) * m9)) ≤ m3) = true := decide_eq_true C2; clear C2; by_cases E9 : M1 = true
                ·subst E9; rw [if_pos rfl] at H
                 obtain rfl := Option.some.inj H
                 try go_wp2
                 replace a2 := dR_ a2; replace a1 := dR_ a1; replace a3 := dB_ a3; replace HB := dH_ HB
                 have o7 : 0 ≤ ((g0) : Int) := od_
                 have o8 : (g0) < (a6.length : Int) := od_
                 obtain ⟨d4, B2, m5⟩ := Kd.at_int (rr_ a1) (g0) o7 o8; cases B2; replace o7 := eq_true o7; replace o8 := eq_true o8
                 refine start_ (n := 15) (S := fun w' => w'.cell? ⟨c4, 0, none⟩ = some (.slice (some c8) a7.length h7) ∧ w'.cell? ⟨c4, 1, none⟩ = some (.slice (some d4) a6.length c5) ∧ w'.cell? (d4.add ((g0)).toNat) = some (.int .i64 (rd a6 (g0)))) (ds := []) (bs_ 15 0) (by kernel_rfl) rfl (by kernel_rfl) ⟨bc0_ a3, bc1_ a3, m5⟩ (fun hHeld => ?_); refine with_tabW laws_FnTables.tab22 laws_FnTables.bits22 (fun HT_ HW_ => ?_)
                 generalize wc.drew = ak2 at a2 a1 a3 HB m5 hHeld ⊢
                 refine pu_ HT_ 1 156 (bs_ 15 2) ?_; refine pu_ HT_ 3 158 (bs_ 15 10) ?_; refine tk_ HT_ HW_ 0 155 (bs_ 15 11) hHeld ?_; refine tk_ HT_ HW_ 2 157 (bs_ 15 15) hHeld ?_; refine tk_ HT_ HW_ 4 159 (bs_ 15 31) hHeld ?_; refine pu_ HT_ 5 160 (bs_ 15 63) ?_; refine pu_ HT_ 6 161 (bs_ 15 127) ?_; refine pu_ HT_ 7 162 (bs_ 15 255) ?_; refine tk_ HT_ HW_ 8 163 (bs_ 15 511) hHeld ?_
                 refine one_ (i := 9) (N := some 164) (bs_ 15 1023) rfl rfl (one_of HT_.out (by kernel_rfl)) (by decide) (fun K hK => ?_)
                 refine goes_ Try.func34 (by kernel_rfl) rfl #[.agg #[.slice (some c8) a7.length h7, .slice (some d4) a6.length c5], .int .i64 (rd a6 (g0))] (by rfl) rfl rfl (by (try simp only [List.map_toArray, List.map_cons, List.map_nil]); first | done | (simp only [o3]; rfl) | rfl | (simp only [List.length_drop, List.length_take]; rfl)) ?_
                 with_reducible refine (impl_Find.calls kj79 _ _ a7 _ _ a6 (rd a6 (g0)) o5 true _ ?g8 ?g9 ?j1 ?j7 A97.out).mono ?_
                 (case g8 => exact cw_ (rr_ a2))
                 (case g9 => exact (Kd.R_reads' a2.out).2.1)
                 (case j1 => exact cw_ (rr_ a1))
                 (case j7 => exact (Kd.R_reads' a1.out).2.1)
                 rintro e ak3 ⟨rfl, hb⟩
                 have B3 := (hb.cell (World.block_lt_of_cell? _ _ (hHeld.2.2))).trans (hHeld.2.2)
                 refine ⟨_, rfl, ?_⟩
                 replace a2 := rk_ a2 hb; replace a1 := rk_ a1 hb; replace a3 := bk_ a3 hb; replace HB := hk_ HB hb
                 (try clear hb); (try clear A7); (try clear hk); (try clear hi)
                 refine hK.out _ _ ⟨bc0_ a3, bc1_ a3, B3⟩ (fun hHeld => ?_)
                 clear hK K; refine nm_ 164 ?_; refine pu_ HT_ 10 154 (bs_ 15 2047) ?_; refine pu_ HT_ 11 165 (bs_ 15 4095) ?_; refine pu_ HT_ 12 166 (bs_ 15 8191) ?_; refine pu_ HT_ 13 14 (bs_ 15 16383) ?_; refine pu_ HT_ 14 15 (bs_ 15 32767) ?_
                 refine done_ (done_of HT_.out (by kernel_rfl)) ?_
                 have M2 := bc0_ a3; have M3 := bc1_ a3; have M4 := bf_ a3 0; have M5 := bf_ a3 1
                 try go_wp2_with (first | ((with_reducible refine gc_ 27 rfl ?_); refine gl_ (some 172) rfl Try.func27 #[.agg #[.slice (some c8) a7.length h7, .slice (some d4) a6.length c5], .int .i64 o5] ?_; (with_reducible refine (impl_At.calls kj79 _ _ a7 _ _ a6 o5 m3 m9 H5 _ ?g8 ?g9 ?j1 ?j7 A99.out).mono ?_); (case g8 => exact cw_ (rr_ a2)); (case g9 => exact (Kd.R_reads' a2.out).2.1); (case j1 => exact cw_ (rr_ a1)); (case j7 => exact (Kd.R_reads' a1.out).2.1); rintro e ak4 ⟨rfl, hb⟩; refine ⟨_, rfl, ?_⟩; replace a2 := rb_ a2 hb; replace a1 := rb_ a1 hb; replace a3 := bl_ a3 hb; replace HB := bp_ HB hb; (try clear hb); (try clear A7); (try clear hk); (try clear hi)) | ((with_reducible refine gd_ 16 rfl ?_); (try (refine gate_guard (by rfl) ?_; dsimp only)); refine box_event ?hg (N := 16) ?hd (cs := #[.int .i64 0, .int .i64 0]) (t := 48) ?hr ?_; (case hd => rfl); (case hg => rfl); (case hr => exact hr_); intro g4 hg ak5 hbox hb; replace a2 := rb_ a2 hb; replace a1 := rb_ a1 hb; have c2 := mk_ (hbox); have t8 := gb_ hg HB; replace HB := bp_ HB hb; have t9 := t8; have h4 := nb_ hg a3; replace a3 := bl_ a3 hb; have n7 := ns_ h4; clear hb hbox hg; have ac4 := n7.out; have ac5 := h4.out; have M6 := bc0_ c2; have M7 := bc1_ c2; have M8 := bf_ c2 0; have M9 := bf_ c2 1; have N0 := bc0_ a3; have N1 := bc1_ a3; have N2 := bf_ a3 0; have N3 := bf_ a3 1) | ((with_reducible refine gc_ 27 rfl ?_); refine gl_ (some 179) rfl Try.func27 #[.agg #[.slice (some c8) a7.length h7, .slice (some d4) a6.length c5], .int .i64 (wrap64 (o5 - 1))] ?_; (with_reducible refine (impl_At.calls kj79 _ _ a7 _ _ a6 (wrap64 (o5 - 1)) l2 m0 true _ ?g8 ?g9 ?j1 ?j7 H6.out).mono ?_); (case g8 => refine (Kd.R_reads' (e := 3) (base := w.heap.size) (ok := fun k_ => some k_ ≠ (.slice (some d4) a6.length c5 : Value).ownBlock) (n := a7.length) (c := h7) ?_).2.2; exact (by (with_reducible repeat (first | apply Kd.R_alloc | apply Kd.R_drewN | apply Kd.R_drew)); exact (Kd.R_mono (Kd.R_far (p := ⟨g4, 1, none⟩) (Kd.R_far (p := ⟨g4, 0, none⟩) (Kd.R_types a2.out c2.out (by decide)) (fun _ hk => hk.2) (.int .i64 m3)) (fun _ hk => hk.2) (.int .i64 m9)) (fun _ h_ => h_.1)))); (case g9 => exact (Kd.R_reads' a2.out).2.1); (case j1 => refine (Kd.R_reads' (e := 3) (base := w.heap.size) (ok := fun k_ => some k_ ≠ (.slice (some c8) a7.length h7 : Value).ownBlock) (n := a6.length) (c := c5) ?_).2.2; exact (by (with_reducible repeat (first | apply Kd.R_alloc | apply Kd.R_drewN | apply Kd.R_drew)); exact (Kd.R_mono (Kd.R_far (p := ⟨g4, 1, none⟩) (Kd.R_far (p := ⟨g4, 0, none⟩) (Kd.R_types a1.out c2.out (by decide)) (fun _ hk => hk.2) (.int .i64 m3)) (fun _ hk => hk.2) (.int .i64 m9)) (fun _ h_ => h_.1)))); (case j7 => exact (Kd.R_reads' a1.out).2.1); rintro e ak6 ⟨rfl, hb⟩; refine ⟨_, rfl, ?_⟩; replace a2 := mk_ (Kd.R_below (by (with_reducible repeat (first | apply Kd.R_alloc | apply Kd.R_drewN | apply Kd.R_drew)); exact (Kd.R_mono (Kd.R_far (p := ⟨g4, 1, none⟩) (Kd.R_far (p := ⟨g4, 0, none⟩) (Kd.R_types a2.out c2.out (by decide)) (fun _ hk => hk.2) (.int .i64 m3)) (fun _ hk => hk.2) (.int .i64 m9)) (fun _ h_ => h_.1))) hb); replace a1 := mk_ (Kd.R_below (by (with_reducible repeat (first | apply Kd.R_alloc | apply Kd.R_drewN | apply Kd.R_drew)); exact (Kd.R_mono (Kd.R_far (p := ⟨g4, 1, none⟩) (Kd.R_far (p := ⟨g4, 0, none⟩) (Kd.R_types a1.out c2.out (by decide)) (fun _ hk => hk.2) (.int .i64 m3)) (fun _ hk => hk.2) (.int .i64 m9)) (fun _ h_ => h_.1))) hb); replace a3 := mk_ (blk_below (g := c4) (o := .cells #[.slice (some c8) a7.length h7, .slice (some d4) a6.length c5] 51 (0, 0)) (by (with_reducible repeat (first | refine blk_drewN ?_ _ | refine blk_drew ?_ | refine blk_alloc ?_ _)); refine blk_far ?_ h4.out _; (with_reducible repeat (first | refine blk_drewN ?_ _ | refine blk_drew ?_ | refine blk_alloc ?_ _)); refine blk_far ?_ h4.out _; (with_reducible repeat (first | refine blk_drewN ?_ _ | refine blk_drew ?_ | refine blk_alloc ?_ _)); exact a3.out) hb); replace c2 := mk_ (blk_below (g := g4) (o := .cells #[.int .i64 m3, .int .i64 m9] 48 (0, 0)) (by (with_reducible repeat (first | refine blk_drewN ?_ _ | refine blk_drew ?_ | refine blk_alloc ?_ _)); refine blk_put (cs := #[.int .i64 m3, .int .i64 0]) ?_ 1 _ rfl; (with_reducible repeat (first | refine blk_drewN ?_ _ | refine blk_drew ?_ | refine blk_alloc ?_ _)); refine blk_put (cs := #[.int .i64 0, .int .i64 0]) ?_ 0 _ rfl; (with_reducible repeat (first | refine blk_drewN ?_ _ | refine blk_drew ?_ | refine blk_alloc ?_ _)); exact c2.out) hb); replace HB := mk_ (below_step (by repeat (first | (with_reducible first | exact HB.out | apply below_alloc | apply pw_below_drewN | apply below_drew1 | refine below_set ?_ t9.out) | exact HB.out)) hb); (try clear hb); (try clear A7); (try clear hk); (try clear hi)) | ((with_reducible refine gd_ 18 rfl ?_); (try (refine gate_guard (by rfl) ?_; dsimp only)); refine box_event ?hg (N := 18) ?hd (cs := #[.int .i64 0, .int .i64 0]) (t := 48) ?hr ?_; (case hd => rfl); (case hg => rfl); (case hr => exact hr_); intro c6 hg B4 hbox hb; replace a2 := rb_ a2 hb; replace a1 := rb_ a1 hb; have g1 := mk_ (hbox); have y8 := gb_ hg HB; replace HB := bp_ HB hb; have y9 := y8; have h5 := nb_ hg a3; replace a3 := bl_ a3 hb; have n8 := ns_ h5; have h6 := nb_ hg c2; replace c2 := bl_ c2 hb; have n9 := ns_ h6; clear hb hbox hg; have ac6 := n8.out; have ac7 := h5.out; have ac8 := n9.out; have ac9 := h6.out; have N4 := bc0_ g1; have N5 := bc1_ g1; have N6 := bf_ g1 0; have N7 := bf_ g1 1))
                 have s4 : Aside0 (Kd.R (Kd.int .i64) 3 ((B4.setCell ⟨c6, 0, none⟩ (.int .i64 l2)).setCell ⟨c6, 1, none⟩ (.int .i64 m0)) w.heap.size (fun k_ => some k_ ≠ (.slice (some d4) a6.length c5 : Value).ownBlock) (.slice (some c8) a7.length h7) a7) := ⟨by (with_reducible repeat (first | apply Kd.R_alloc | apply Kd.R_drewN | apply Kd.R_drew)); exact Kd.R_mono (Kd.R_far (p := ⟨c6, 1, none⟩) (Kd.R_far (p := ⟨c6, 0, none⟩) (Kd.R_types a2.out g1.out (by decide)) (fun _ hk => hk.2) (.int .i64 l2)) (fun _ hk => hk.2) (.int .i64 m0)) (fun _ hk => hk.1)⟩
                 have s5 : Aside0 (Kd.R (Kd.int .i64) 3 ((B4.setCell ⟨c6, 0, none⟩ (.int .i64 l2)).setCell ⟨c6, 1, none⟩ (.int .i64 m0)) w.heap.size (fun k_ => some k_ ≠ (.slice (some c8) a7.length h7 : Value).ownBlock) (.slice (some d4) a6.length c5) a6) := ⟨by (with_reducible repeat (first | apply Kd.R_alloc | apply Kd.R_drewN | apply Kd.R_drew)); exact Kd.R_mono (Kd.R_far (p := ⟨c6, 1, none⟩) (Kd.R_far (p := ⟨c6, 0, none⟩) (Kd.R_types a1.out g1.out (by decide)) (fun _ hk => hk.2) (.int .i64 l2)) (fun _ hk => hk.2) (.int .i64 m0)) (fun _ hk => hk.1)⟩
                 have s6 : Aside0 (((B4.setCell ⟨c6, 0, none⟩ (.int .i64 l2)).setCell ⟨c6, 1, none⟩ (.int .i64 m0)).heap[c4]? = some (.cells #[.slice (some c8) a7.length h7, .slice (some d4) a6.length c5] 51 (0, 0))) := ⟨by (with_reducible repeat (first | refine blk_drewN ?_ _ | refine blk_drew ?_ | refine blk_alloc ?_ _)); refine blk_far ?_ h5.out _; (with_reducible repeat (first | refine blk_drewN ?_ _ | refine blk_drew ?_ | refine blk_alloc ?_ _)); refine blk_far ?_ h5.out _; (with_reducible repeat (first | refine blk_drewN ?_ _ | refine blk_drew ?_ | refine blk_alloc ?_ _)); exact a3.out⟩
                 have s7 : Aside0 (((B4.setCell ⟨c6, 0, none⟩ (.int .i64 l2)).setCell ⟨c6, 1, none⟩ (.int .i64 m0)).heap[g4]? = some (.cells #[.int .i64 m3, .int .i64 m9] 48 (0, 0))) := ⟨by (with_reducible repeat (first | refine blk_drewN ?_ _ | refine blk_drew ?_ | refine blk_alloc ?_ _)); refine blk_far ?_ h6.out _; (with_reducible repeat (first | refine blk_drewN ?_ _ | refine blk_drew ?_ | refine blk_alloc ?_ _)); refine blk_far ?_ h6.out _; (with_reducible repeat (first | refine blk_drewN ?_ _ | refine blk_drew ?_ | refine blk_alloc ?_ _)); exact c2.out⟩
                 have s8 : Aside0 (((B4.setCell ⟨c6, 0, none⟩ (.int .i64 l2)).setCell ⟨c6, 1, none⟩ (.int .i64 m0)).heap[c6]? = some (.cells #[.int .i64 l2, .int .i64 m0] 48 (0, 0))) := ⟨by (with_reducible repeat (first | refine blk_drewN ?_ _ | refine blk_drew ?_ | refine blk_alloc ?_ _)); refine blk_put (cs := #[.int .i64 l2, .int .i64 0]) ?_ 1 _ rfl; (with_reducible repeat (first | refine blk_drewN ?_ _ | refine blk_drew ?_ | refine blk_alloc ?_ _)); refine blk_put (cs := #[.int .i64 0, .int .i64 0]) ?_ 0 _ rfl; (with_reducible repeat (first | refine blk_drewN ?_ _ | refine blk_drew ?_ | refine blk_alloc ?_ _)); exact g1.out⟩
                 have D8 : Aside0 (Below w.heap.size w ((B4.setCell ⟨c6, 0, none⟩ (.int .i64 l2)).setCell ⟨c6, 1, none⟩ (.int .i64 m0))) := ⟨by repeat (first | (with_reducible first | exact HB.out | apply below_alloc | apply pw_below_drewN | apply below_drew1 | refine below_set ?_ y9.out) | exact HB.out)⟩
                 (try clear a2); (try clear a1); (try clear a3); (try clear c2); (try clear g1); (try clear HB)
                 generalize ((B4.setCell ⟨c6, 0, none⟩ (.int .i64 l2)).setCell ⟨c6, 1, none⟩ (.int .i64 m0)) = ad0 at s4 s5 s6 s7 s8 D8 ⊢
                 have a2 := s4
                 have a1 := s5
                 have a3 := s6
                 have c2 := s7
                 have g1 := s8
                 have HB := D8
                 clear s4 s5 s6 s7 s8 D8
                 replace a2 := dR_ a2; replace a1 := dR_ a1; replace a3 := dB_ a3; replace c2 := dB_ c2; replace g1 := dB_ g1; replace HB := dH_ HB
                 have p6 : 0 ≤ ((g0) : Int) := od_
                 have p7 : (g0) < (a6.length : Int) := od_
                 obtain ⟨A1, D9, n4⟩ := Kd.at_int (rr_ a1) (g0) p6 p7; obtain rfl : d4 = A1 := (by injection D9); replace p6 := eq_true p6; replace p7 := eq_true p7
                 have H8 : 0 ≤ ((g0) : Int) := od_
                 have H9 : (g0) < (a6.length : Int) := od_
                 obtain ⟨N8, ad1, C1⟩ := Kd.at_int (rr_ a1) (g0) H8 H9; obtain rfl : d4 = N8 := (by injection ad1); replace H8 := eq_true H8; replace H9 := eq_true H9
                 refine start_ (n := 35) (S := fun w' => w'.cell? ⟨g4, 0, none⟩ = some (.int .i64 m3) ∧ w'.cell? ⟨g4, 1, none⟩ = some (.int .i64 m9) ∧ w'.cell? ⟨c4, 0, none⟩ = some (.slice (some c8) a7.length h7) ∧ w'.cell? ⟨c4, 1, none⟩ = some (.slice (some d4) a6.length c5) ∧ w'.cell? ⟨c6, 0, none⟩ = some (.int .i64 l2) ∧ w'.cell? ⟨c6, 1, none⟩ = some (.int .i64 m0) ∧ w'.cell? (d4.add ((g0)).toNat) = some (.int .i64 (rd a6 (g0))) ∧ w'.cell? (d4.add ((g0)).toNat) = some (.int .i64 (rd a6 (g0)))) (ds := []) (bs_ 35 0) (by kernel_rfl) rfl (by kernel_rfl) ⟨bc0_ c2, bc1_ c2, bc0_ a3, bc1_ a3, bc0_ g1, bc1_ g1, n4, C1⟩ (fun hHeld => ?_); refine with_tabW laws_FnTables.tab27 laws_FnTables.bits27 (fun HT_ HW_ => ?_)
                 generalize ad0.drew = ak7 at a2 a1 a3 c2 g1 HB n4 C1 hHeld ⊢
                 refine pu_ HT_ 0 182 (bs_ 35 1) ?_; refine pu_ HT_ 2 184 (bs_ 35 5) ?_; refine pu_ HT_ 4 186 (bs_ 35 21) ?_; refine pu_ HT_ 10 192 (bs_ 35 1045) ?_; refine tk_ HT_ HW_ 1 183 (bs_ 35 1047) hHeld ?_; refine tk_ HT_ HW_ 3 185 (bs_ 35 1055) hHeld ?_; refine tk_ HT_ HW_ 5 187 (bs_ 35 1087) hHeld ?_; refine pu_ HT_ 6 188 (bs_ 35 1151) ?_; refine pu_ HT_ 7 189 (bs_ 35 1279) ?_; refine pu_ HT_ 8 190 (bs_ 35 1535) ?_; refine tk_ HT_ HW_ 9 191 (bs_ 35 2047) hHeld ?_; refine tk_ HT_ HW_ 11 193 (bs_ 35 4095) hHeld ?_; refine pu_ HT_ 12 194 (bs_ 35 8191) ?_; refine pu_ HT_ 13 195 (bs_ 35 16383) ?_; refine pu_ HT_ 14 196 (bs_ 35 32767) ?_; refine pu_ HT_ 15 197 (bs_ 35 65535) ?_; refine pu_ HT_ 16 198 (bs_ 35 131071) ?_; refine pu_ HT_ 17 199 (bs_ 35 262143) ?_; refine pu_ HT_ 18 200 (bs_ 35 524287) ?_; refine pu_ HT_ 20 202 (bs_ 35 1572863) ?_; refine pu_ HT_ 22 204 (bs_ 35 5767167) ?_; refine pu_ HT_ 28 210 (bs_ 35 274202623) ?_; refine tk_ HT_ HW_ 19 201 (bs_ 35 274726911) hHeld ?_; refine tk_ HT_ HW_ 21 203 (bs_ 35 276824063) hHeld ?_; refine tk_ HT_ HW_ 23 205 (bs_ 35 285212671) hHeld ?_; refine pu_ HT_ 24 206 (bs_ 35 301989887) ?_; refine pu_ HT_ 25 207 (bs_ 35 335544319) ?_; refine pu_ HT_ 26 208 (bs_ 35 402653183) ?_; refine tk_ HT_ HW_ 27 209 (bs_ 35 536870911) hHeld ?_; refine tk_ HT_ HW_ 29 211 (bs_ 35 1073741823) hHeld ?_; refine pu_ HT_ 30 212 (bs_ 35 2147483647) ?_; refine pu_ HT_ 31 213 (bs_ 35 4294967295) ?_; refine pu_ HT_ 32 214 (bs_ 35 8589934591) ?_; refine pu_ HT_ 33 215 (bs_ 35 17179869183) ?_; refine pu_ HT_ 34 2 (bs_ 35 34359738367) ?_
                 refine done_ (done_of HT_.out (by kernel_rfl)) ?_
                 try go_wp2
                 go_ret
                 exact ⟨by first | rfl | (simp [errW_none, errW_some] <;> rfl) | (simp only [← o3]; first | rfl | (simp [errW_none, errW_some] <;> rfl)) | (simp [*, errW_none, errW_some] <;> rfl), hw_ HB⟩
                ·replace E9 := Bool.eq_false_iff.mpr E9; subst E9; rw [if_neg (show ¬ (false = true) by decide)] at H; obtain rfl := Option.some.inj H
                 try go_wp2
                 replace a2 := dR_ a2; replace a1 := dR_ a1; replace a3 := dB_ a3; replace HB := dH_ HB
                 have o7 : 0 ≤ ((g0) : Int) := od_
                 have o8 : (g0) < (a6.length : Int) := od_
                 obtain ⟨d4, B2, m5⟩ := Kd.at_int (rr_ a1) (g0) o7 o8; cases B2; replace o7 := eq_true o7; replace o8 := eq_true o8
                 refine start_ (n := 15) (S := fun w' => w'.cell? ⟨c4, 0, none⟩ = some (.slice (some c8) a7.length h7) ∧ w'.cell? ⟨c4, 1, none⟩ = some (.slice (some d4) a6.length c5) ∧ w'.cell? (d4.add ((g0)).toNat) = some (.int .i64 (rd a6 (g0)))) (ds := []) (bs_ 15 0) (by kernel_rfl) rfl (by kernel_rfl) ⟨bc0_ a3, bc1_ a3, m5⟩ (fun hHeld => ?_); refine with_tabW laws_FnTables.tab22 laws_FnTables.bits22 (fun HT_ HW_ => ?_)
                 generalize wc.drew = ak8 at a2 a1 a3 HB m5 hHeld ⊢
                 refine pu_ HT_ 1 156 (bs_ 15 2) ?_; refine pu_ HT_ 3 158 (bs_ 15 10) ?_; refine tk_ HT_ HW_ 0 155 (bs_ 15 11) hHeld ?_; refine tk_ HT_ HW_ 2 157 (bs_ 15 15) hHeld ?_; refine tk_ HT_ HW_ 4 159 (bs_ 15 31) hHeld ?_; refine pu_ HT_ 5 160 (bs_ 15 63) ?_; refine pu_ HT_ 6 161 (bs_ 15 127) ?_; refine pu_ HT_ 7 162 (bs_ 15 255) ?_; refine tk_ HT_ HW_ 8 163 (bs_ 15 511) hHeld ?_
                 refine one_ (i := 9) (N := some 164) (bs_ 15 1023) rfl rfl (one_of HT_.out (by kernel_rfl)) (by decide) (fun K hK => ?_)
                 refine goes_ Try.func34 (by kernel_rfl) rfl #[.agg #[.slice (some c8) a7.length h7, .slice (some d4) a6.length c5], .int .i64 (rd a6 (g0))] (by rfl) rfl rfl (by (try simp only [List.map_toArray, List.map_cons, List.map_nil]); first | done | (simp only [o3]; rfl) | rfl | (simp only [List.length_drop, List.length_take]; rfl)) ?_
                 with_reducible refine (impl_Find.calls kj79 _ _ a7 _ _ a6 (rd a6 (g0)) o5 true _ ?g8 ?g9 ?j1 ?j7 A97.out).mono ?_
                 (case g8 => exact cw_ (rr_ a2))
                 (case g9 => exact (Kd.R_reads' a2.out).2.1)
                 (case j1 => exact cw_ (rr_ a1))
                 (case j7 => exact (Kd.R_reads' a1.out).2.1)
                 rintro e ak9 ⟨rfl, hb⟩
                 have B3 := (hb.cell (World.block_lt_of_cell? _ _ (hHeld.2.2))).trans (hHeld.2.2)
                 refine ⟨_, rfl, ?_⟩
                 replace a2 := rk_ a2 hb; replace a1 := rk_ a1 hb; replace a3 := bk_ a3 hb; replace HB := hk_ HB hb
                 (try clear hb); (try clear A7); (try clear hk); (try clear hi)
                 refine hK.out _ _ ⟨bc0_ a3, bc1_ a3, B3⟩ (fun hHeld => ?_)
                 clear hK K; refine nm_ 164 ?_; refine pu_ HT_ 10 154 (bs_ 15 2047) ?_; refine pu_ HT_ 11 165 (bs_ 15 4095) ?_; refine pu_ HT_ 12 166 (bs_ 15 8191) ?_; refine pu_ HT_ 13 14 (bs_ 15 16383) ?_; refine pu_ HT_ 14 15 (bs_ 15 32767) ?_
                 refine done_ (done_of HT_.out (by kernel_rfl)) ?_
                 have N9 := bc0_ a3; have O0 := bc1_ a3; have O1 := bf_ a3 0; have O2 := bf_ a3 1
                 try go_wp2_with (first | ((with_reducible refine gc_ 27 rfl ?_); refine gl_ (some 172) rfl Try.func27 #[.agg #[.slice (some c8) a7.length h7, .slice (some d4) a6.length c5], .int .i64 o5] ?_; (with_reducible refine (impl_At.calls kj79 _ _ a7 _ _ a6 o5 m3 m9 H5 _ ?g8 ?g9 ?j1 ?j7 A99.out).mono ?_); (case g8 => exact cw_ (rr_ a2)); (case g9 => exact (Kd.R_reads' a2.out).2.1); (case j1 => exact cw_ (rr_ a1)); (case j7 => exact (Kd.R_reads' a1.out).2.1); rintro e al0 ⟨rfl, hb⟩; refine ⟨_, rfl, ?_⟩; replace a2 := rb_ a2 hb; replace a1 := rb_ a1 hb; replace a3 := bl_ a3 hb; replace HB := bp_ HB hb; (try clear hb); (try clear A7); (try clear hk); (try clear hi)) | ((with_reducible refine gd_ 16 rfl ?_); (try (refine gate_guard (by rfl) ?_; dsimp only)); refine box_event ?hg (N := 16) ?hd (cs := #[.int .i64 0, .int .i64 0]) (t := 48) ?hr ?_; (case hd => rfl); (case hg => rfl); (case hr => exact hr_); intro g4 hg al1 hbox hb; replace a2 := rb_ a2 hb; replace a1 := rb_ a1 hb; have c2 := mk_ (hbox); have t8 := gb_ hg HB; replace HB := bp_ HB hb; have t9 := t8; have h4 := nb_ hg a3; replace a3 := bl_ a3 hb; have n7 := ns_ h4; clear hb hbox hg; have ad2 := n7.out; have ad3 := h4.out; have O3 := bc0_ c2; have O4 := bc1_ c2; have O5 := bf_ c2 0; have O6 := bf_ c2 1; have O7 := bc0_ a3; have O8 := bc1_ a3; have O9 := bf_ a3 0; have P0 := bf_ a3 1) | ((with_reducible refine gc_ 27 rfl ?_); refine gl_ (some 179) rfl Try.func27 #[.agg #[.slice (some c8) a7.length h7, .slice (some d4) a6.length c5], .int .i64 (wrap64 (o5 - 1))] ?_; (with_reducible refine (impl_At.calls kj79 _ _ a7 _ _ a6 (wrap64 (o5 - 1)) l2 m0 false _ ?g8 ?g9 ?j1 ?j7 H6.out).mono ?_); (case g8 => refine (Kd.R_reads' (e := 3) (base := w.heap.size) (ok := fun k_ => some k_ ≠ (.slice (some d4) a6.length c5 : Value).ownBlock) (n := a7.length) (c := h7) ?_).2.2; exact (by (with_reducible repeat (first | apply Kd.R_alloc | apply Kd.R_drewN | apply Kd.R_drew)); exact (Kd.R_mono (Kd.R_far (p := ⟨g4, 1, none⟩) (Kd.R_far (p := ⟨g4, 0, none⟩) (Kd.R_types a2.out c2.out (by decide)) (fun _ hk => hk.2) (.int .i64 m3)) (fun _ hk => hk.2) (.int .i64 m9)) (fun _ h_ => h_.1)))); (case g9 => exact (Kd.R_reads' a2.out).2.1); (case j1 => refine (Kd.R_reads' (e := 3) (base := w.heap.size) (ok := fun k_ => some k_ ≠ (.slice (some c8) a7.length h7 : Value).ownBlock) (n := a6.length) (c := c5) ?_).2.2; exact (by (with_reducible repeat (first | apply Kd.R_alloc | apply Kd.R_drewN | apply Kd.R_drew)); exact (Kd.R_mono (Kd.R_far (p := ⟨g4, 1, none⟩) (Kd.R_far (p := ⟨g4, 0, none⟩) (Kd.R_types a1.out c2.out (by decide)) (fun _ hk => hk.2) (.int .i64 m3)) (fun _ hk => hk.2) (.int .i64 m9)) (fun _ h_ => h_.1)))); (case j7 => exact (Kd.R_reads' a1.out).2.1); rintro e al2 ⟨rfl, hb⟩; refine ⟨_, rfl, ?_⟩; replace a2 := mk_ (Kd.R_below (by (with_reducible repeat (first | apply Kd.R_alloc | apply Kd.R_drewN | apply Kd.R_drew)); exact (Kd.R_mono (Kd.R_far (p := ⟨g4, 1, none⟩) (Kd.R_far (p := ⟨g4, 0, none⟩) (Kd.R_types a2.out c2.out (by decide)) (fun _ hk => hk.2) (.int .i64 m3)) (fun _ hk => hk.2) (.int .i64 m9)) (fun _ h_ => h_.1))) hb); replace a1 := mk_ (Kd.R_below (by (with_reducible repeat (first | apply Kd.R_alloc | apply Kd.R_drewN | apply Kd.R_drew)); exact (Kd.R_mono (Kd.R_far (p := ⟨g4, 1, none⟩) (Kd.R_far (p := ⟨g4, 0, none⟩) (Kd.R_types a1.out c2.out (by decide)) (fun _ hk => hk.2) (.int .i64 m3)) (fun _ hk => hk.2) (.int .i64 m9)) (fun _ h_ => h_.1))) hb); replace a3 := mk_ (blk_below (g := c4) (o := .cells #[.slice (some c8) a7.length h7, .slice (some d4) a6.length c5] 51 (0, 0)) (by (with_reducible repeat (first | refine blk_drewN ?_ _ | refine blk_drew ?_ | refine blk_alloc ?_ _)); refine blk_far ?_ h4.out _; (with_reducible repeat (first | refine blk_drewN ?_ _ | refine blk_drew ?_ | refine blk_alloc ?_ _)); refine blk_far ?_ h4.out _; (with_reducible repeat (first | refine blk_drewN ?_ _ | refine blk_drew ?_ | refine blk_alloc ?_ _)); exact a3.out) hb); replace c2 := mk_ (blk_below (g := g4) (o := .cells #[.int .i64 m3, .int .i64 m9] 48 (0, 0)) (by (with_reducible repeat (first | refine blk_drewN ?_ _ | refine blk_drew ?_ | refine blk_alloc ?_ _)); refine blk_put (cs := #[.int .i64 m3, .int .i64 0]) ?_ 1 _ rfl; (with_reducible repeat (first | refine blk_drewN ?_ _ | refine blk_drew ?_ | refine blk_alloc ?_ _)); refine blk_put (cs := #[.int .i64 0, .int .i64 0]) ?_ 0 _ rfl; (with_reducible repeat (first | refine blk_drewN ?_ _ | refine blk_drew ?_ | refine blk_alloc ?_ _)); exact c2.out) hb); replace HB := mk_ (below_step (by repeat (first | (with_reducible first | exact HB.out | apply below_alloc | apply pw_below_drewN | apply below_drew1 | refine below_set ?_ t9.out) | exact HB.out)) hb); (try clear hb); (try clear A7); (try clear hk); (try clear hi)) | ((with_reducible refine gd_ 18 rfl ?_); (try (refine gate_guard (by rfl) ?_; dsimp only)); refine box_event ?hg (N := 18) ?hd (cs := #[.int .i64 0, .int .i64 0]) (t := 48) ?hr ?_; (case hd => rfl); (case hg => rfl); (case hr => exact hr_); intro c6 hg B5 hbox hb; replace a2 := rb_ a2 hb; replace a1 := rb_ a1 hb; have g1 := mk_ (hbox); have y8 := gb_ hg HB; replace HB := bp_ HB hb; have y9 := y8; have h5 := nb_ hg a3; replace a3 := bl_ a3 hb; have n8 := ns_ h5; have h6 := nb_ hg c2; replace c2 := bl_ c2 hb; have n9 := ns_ h6; clear hb hbox hg; have ad4 := n8.out; have ad5 := h5.out; have ad6 := n9.out; have ad7 := h6.out; have P1 := bc0_ g1; have P2 := bc1_ g1; have P3 := bf_ g1 0; have P4 := bf_ g1 1))
                 have s4 : Aside0 (Kd.R (Kd.int .i64) 3 ((B5.setCell ⟨c6, 0, none⟩ (.int .i64 l2)).setCell ⟨c6, 1, none⟩ (.int .i64 m0)) w.heap.size (fun k_ => some k_ ≠ (.slice (some d4) a6.length c5 : Value).ownBlock) (.slice (some c8) a7.length h7) a7) := ⟨by (with_reducible repeat (first | apply Kd.R_alloc | apply Kd.R_drewN | apply Kd.R_drew)); exact Kd.R_mono (Kd.R_far (p := ⟨c6, 1, none⟩) (Kd.R_far (p := ⟨c6, 0, none⟩) (Kd.R_types a2.out g1.out (by decide)) (fun _ hk => hk.2) (.int .i64 l2)) (fun _ hk => hk.2) (.int .i64 m0)) (fun _ hk => hk.1)⟩
                 have s5 : Aside0 (Kd.R (Kd.int .i64) 3 ((B5.setCell ⟨c6, 0, none⟩ (.int .i64 l2)).setCell ⟨c6, 1, none⟩ (.int .i64 m0)) w.heap.size (fun k_ => some k_ ≠ (.slice (some c8) a7.length h7 : Value).ownBlock) (.slice (some d4) a6.length c5) a6) := ⟨by (with_reducible repeat (first | apply Kd.R_alloc | apply Kd.R_drewN | apply Kd.R_drew)); exact Kd.R_mono (Kd.R_far (p := ⟨c6, 1, none⟩) (Kd.R_far (p := ⟨c6, 0, none⟩) (Kd.R_types a1.out g1.out (by decide)) (fun _ hk => hk.2) (.int .i64 l2)) (fun _ hk => hk.2) (.int .i64 m0)) (fun _ hk => hk.1)⟩
                 have s6 : Aside0 (((B5.setCell ⟨c6, 0, none⟩ (.int .i64 l2)).setCell ⟨c6, 1, none⟩ (.int .i64 m0)).heap[c4]? = some (.cells #[.slice (some c8) a7.length h7, .slice (some d4) a6.length c5] 51 (0, 0))) := ⟨by (with_reducible repeat (first | refine blk_drewN ?_ _ | refine blk_drew ?_ | refine blk_alloc ?_ _)); refine blk_far ?_ h5.out _; (with_reducible repeat (first | refine blk_drewN ?_ _ | refine blk_drew ?_ | refine blk_alloc ?_ _)); refine blk_far ?_ h5.out _; (with_reducible repeat (first | refine blk_drewN ?_ _ | refine blk_drew ?_ | refine blk_alloc ?_ _)); exact a3.out⟩
                 have s7 : Aside0 (((B5.setCell ⟨c6, 0, none⟩ (.int .i64 l2)).setCell ⟨c6, 1, none⟩ (.int .i64 m0)).heap[g4]? = some (.cells #[.int .i64 m3, .int .i64 m9] 48 (0, 0))) := ⟨by (with_reducible repeat (first | refine blk_drewN ?_ _ | refine blk_drew ?_ | refine blk_alloc ?_ _)); refine blk_far ?_ h6.out _; (with_reducible repeat (first | refine blk_drewN ?_ _ | refine blk_drew ?_ | refine blk_alloc ?_ _)); refine blk_far ?_ h6.out _; (with_reducible repeat (first | refine blk_drewN ?_ _ | refine blk_drew ?_ | refine blk_alloc ?_ _)); exact c2.out⟩
                 have s8 : Aside0 (((B5.setCell ⟨c6, 0, none⟩ (.int .i64 l2)).setCell ⟨c6, 1, none⟩ (.int .i64 m0)).heap[c6]? = some (.cells #[.int .i64 l2, .int .i64 m0] 48 (0, 0))) := ⟨by (with_reducible repeat (first | refine blk_drewN ?_ _ | refine blk_drew ?_ | refine blk_alloc ?_ _)); refine blk_put (cs := #[.int .i64 l2, .int .i64 0]) ?_ 1 _ rfl; (with_reducible repeat (first | refine blk_drewN ?_ _ | refine blk_drew ?_ | refine blk_alloc ?_ _)); refine blk_put (cs := #[.int .i64 0, .int .i64 0]) ?_ 0 _ rfl; (with_reducible repeat (first | refine blk_drewN ?_ _ | refine blk_drew ?_ | refine blk_alloc ?_ _)); exact g1.out⟩
                 have D8 : Aside0 (Below w.heap.size w ((B5.setCell ⟨c6, 0, none⟩ (.int .i64 l2)).setCell ⟨c6, 1, none⟩ (.int .i64 m0))) := ⟨by repeat (first | (with_reducible first | exact HB.out | apply below_alloc | apply pw_below_drewN | apply below_drew1 | refine below_set ?_ y9.out) | exact HB.out)⟩
                 (try clear a2); (try clear a1); (try clear a3); (try clear c2); (try clear g1); (try clear HB)
                 generalize ((B5.setCell ⟨c6, 0, none⟩ (.int .i64 l2)).setCell ⟨c6, 1, none⟩ (.int .i64 m0)) = ad8 at s4 s5 s6 s7 s8 D8 ⊢
                 have a2 := s4
                 have a1 := s5
                 have a3 := s6
                 have c2 := s7
                 have g1 := s8
                 have HB := D8
                 clear s4 s5 s6 s7 s8 D8
                 replace a2 := dR_ a2; replace a1 := dR_ a1; replace a3 := dB_ a3; replace c2 := dB_ c2; replace g1 := dB_ g1; replace HB := dH_ HB
                 have p6 : 0 ≤ ((g0) : Int) := od_
                 have p7 : (g0) < (a6.length : Int) := od_
                 obtain ⟨A1, D9, n4⟩ := Kd.at_int (rr_ a1) (g0) p6 p7; obtain rfl : d4 = A1 := (by injection D9); replace p6 := eq_true p6; replace p7 := eq_true p7
                 refine start_ (n := 35) (S := fun w' => w'.cell? ⟨g4, 0, none⟩ = some (.int .i64 m3) ∧ w'.cell? ⟨g4, 1, none⟩ = some (.int .i64 m9) ∧ w'.cell? ⟨c4, 0, none⟩ = some (.slice (some c8) a7.length h7) ∧ w'.cell? ⟨c4, 1, none⟩ = some (.slice (some d4) a6.length c5) ∧ w'.cell? (d4.add ((g0)).toNat) = some (.int .i64 (rd a6 (g0)))) (ds := []) (bs_ 35 0) (by kernel_rfl) rfl (by kernel_rfl) ⟨bc0_ c2, bc1_ c2, bc0_ a3, bc1_ a3, n4⟩ (fun hHeld => ?_); refine with_tabW laws_FnTables.tab27 laws_FnTables.bits27 (fun HT_ HW_ => ?_)
                 generalize ad8.drew = al3 at a2 a1 a3 c2 g1 HB n4 hHeld ⊢
                 refine pu_ HT_ 0 182 (bs_ 35 1) ?_; refine pu_ HT_ 2 184 (bs_ 35 5) ?_; refine pu_ HT_ 4 186 (bs_ 35 21) ?_; refine pu_ HT_ 10 192 (bs_ 35 1045) ?_; refine tk_ HT_ HW_ 1 183 (bs_ 35 1047) hHeld ?_; refine tk_ HT_ HW_ 3 185 (bs_ 35 1055) hHeld ?_; refine tk_ HT_ HW_ 5 187 (bs_ 35 1087) hHeld ?_; refine pu_ HT_ 6 188 (bs_ 35 1151) ?_; refine pu_ HT_ 7 189 (bs_ 35 1279) ?_; refine pu_ HT_ 8 190 (bs_ 35 1535) ?_; refine tk_ HT_ HW_ 9 191 (bs_ 35 2047) hHeld ?_; refine tk_ HT_ HW_ 11 193 (bs_ 35 4095) hHeld ?_; refine pu_ HT_ 12 194 (bs_ 35 8191) ?_; refine pu_ HT_ 13 195 (bs_ 35 16383) ?_; refine pu_ HT_ 14 196 (bs_ 35 32767) ?_; refine pu_ HT_ 15 197 (bs_ 35 65535) ?_; refine pu_ HT_ 16 198 (bs_ 35 131071) ?_; refine pu_ HT_ 17 199 (bs_ 35 262143) ?_; refine pn_ HT_ 18 200 (bs_ 35 524287) ?_; refine pn_ HT_ 19 201 (bs_ 35 1048575) ?_; refine pn_ HT_ 20 202 (bs_ 35 2097151) ?_; refine pn_ HT_ 21 203 (bs_ 35 4194303) ?_; refine pn_ HT_ 22 204 (bs_ 35 8388607) ?_; refine pn_ HT_ 23 205 (bs_ 35 16777215) ?_; refine pn_ HT_ 24 206 (bs_ 35 33554431) ?_; refine pn_ HT_ 25 207 (bs_ 35 67108863) ?_; refine pn_ HT_ 26 208 (bs_ 35 134217727) ?_; refine pn_ HT_ 27 209 (bs_ 35 268435455) ?_; refine pn_ HT_ 28 210 (bs_ 35 536870911) ?_; refine pn_ HT_ 29 211 (bs_ 35 1073741823) ?_; refine pn_ HT_ 30 212 (bs_ 35 2147483647) ?_; refine pn_ HT_ 31 213 (bs_ 35 4294967295) ?_; refine pu_ HT_ 32 214 (bs_ 35 8589934591) ?_; refine pu_ HT_ 33 215 (bs_ 35 17179869183) ?_; refine pu_ HT_ 34 2 (bs_ 35 34359738367) ?_
                 refine done_ (done_of HT_.out (by kernel_rfl)) ?_
                 try go_wp2
                 go_ret
                 exact ⟨by first | rfl | (simp [errW_none, errW_some] <;> rfl) | (simp only [← o3]; first | rfl | (simp [errW_none, errW_some] <;> rfl)) | (simp [*, errW_none, errW_some] <;> rfl), hw_ HB⟩
               ·rw [if_neg C2] at H; have H7 : decide ((wrap64 ((rd a6 (g0)) * m9)) ≤ m3) = false := decide_eq_false C2; clear C2; obtain rfl := Option.some.inj H
                try go_wp2
                replace a2 := dR_ a2; replace a1 := dR_ a1; replace a3 := dB_ a3; replace HB := dH_ HB
                have o7 : 0 ≤ ((g0) : Int) := od_
                have o8 : (g0) < (a6.length : Int) := od_
                obtain ⟨d4, B2, m5⟩ := Kd.at_int (rr_ a1) (g0) o7 o8; cases B2; replace o7 := eq_true o7; replace o8 := eq_true o8
                refine start_ (n := 15) (S := fun w' => w'.cell? ⟨c4, 0, none⟩ = some (.slice (some c8) a7.length h7) ∧ w'.cell? ⟨c4, 1, none⟩ = some (.slice (some d4) a6.length c5) ∧ w'.cell? (d4.add ((g0)).toNat) = some (.int .i64 (rd a6 (g0)))) (ds := []) (bs_ 15 0) (by kernel_rfl) rfl (by kernel_rfl) ⟨bc0_ a3, bc1_ a3, m5⟩ (fun hHeld => ?_); refine with_tabW laws_FnTables.tab22 laws_FnTables.bits22 (fun HT_ HW_ => ?_)
                generalize wc.drew = al4 at a2 a1 a3 HB m5 hHeld ⊢
                refine pu_ HT_ 1 156 (bs_ 15 2) ?_; refine pu_ HT_ 3 158 (bs_ 15 10) ?_; refine tk_ HT_ HW_ 0 155 (bs_ 15 11) hHeld ?_; refine tk_ HT_ HW_ 2 157 (bs_ 15 15) hHeld ?_; refine tk_ HT_ HW_ 4 159 (bs_ 15 31) hHeld ?_; refine pu_ HT_ 5 160 (bs_ 15 63) ?_; refine pu_ HT_ 6 161 (bs_ 15 127) ?_; refine pu_ HT_ 7 162 (bs_ 15 255) ?_; refine tk_ HT_ HW_ 8 163 (bs_ 15 511) hHeld ?_
                refine one_ (i := 9) (N := some 164) (bs_ 15 1023) rfl rfl (one_of HT_.out (by kernel_rfl)) (by decide) (fun K hK => ?_)
                refine goes_ Try.func34 (by kernel_rfl) rfl #[.agg #[.slice (some c8) a7.length h7, .slice (some d4) a6.length c5], .int .i64 (rd a6 (g0))] (by rfl) rfl rfl (by (try simp only [List.map_toArray, List.map_cons, List.map_nil]); first | done | (simp only [o3]; rfl) | rfl | (simp only [List.length_drop, List.length_take]; rfl)) ?_
                with_reducible refine (impl_Find.calls kj79 _ _ a7 _ _ a6 (rd a6 (g0)) o5 true _ ?g8 ?g9 ?j1 ?j7 A97.out).mono ?_
                (case g8 => exact cw_ (rr_ a2))
                (case g9 => exact (Kd.R_reads' a2.out).2.1)
                (case j1 => exact cw_ (rr_ a1))
                (case j7 => exact (Kd.R_reads' a1.out).2.1)
                rintro e al5 ⟨rfl, hb⟩
                have B3 := (hb.cell (World.block_lt_of_cell? _ _ (hHeld.2.2))).trans (hHeld.2.2)
                refine ⟨_, rfl, ?_⟩
                replace a2 := rk_ a2 hb; replace a1 := rk_ a1 hb; replace a3 := bk_ a3 hb; replace HB := hk_ HB hb
                (try clear hb); (try clear A7); (try clear hk); (try clear hi)
                refine hK.out _ _ ⟨bc0_ a3, bc1_ a3, B3⟩ (fun hHeld => ?_)
                clear hK K; refine nm_ 164 ?_; refine pu_ HT_ 10 154 (bs_ 15 2047) ?_; refine pu_ HT_ 11 165 (bs_ 15 4095) ?_; refine pu_ HT_ 12 166 (bs_ 15 8191) ?_; refine pu_ HT_ 13 14 (bs_ 15 16383) ?_; refine pu_ HT_ 14 15 (bs_ 15 32767) ?_
                refine done_ (done_of HT_.out (by kernel_rfl)) ?_
                have P5 := bc0_ a3; have P6 := bc1_ a3; have P7 := bf_ a3 0; have P8 := bf_ a3 1
                try go_wp2_with (first | ((with_reducible refine gc_ 27 rfl ?_); refine gl_ (some 172) rfl Try.func27 #[.agg #[.slice (some c8) a7.length h7, .slice (some d4) a6.length c5], .int .i64 o5] ?_; (with_reducible refine (impl_At.calls kj79 _ _ a7 _ _ a6 o5 m3 m9 H5 _ ?g8 ?g9 ?j1 ?j7 A99.out).mono ?_); (case g8 => exact cw_ (rr_ a2)); (case g9 => exact (Kd.R_reads' a2.out).2.1); (case j1 => exact cw_ (rr_ a1)); (case j7 => exact (Kd.R_reads' a1.out).2.1); rintro e al6 ⟨rfl, hb⟩; refine ⟨_, rfl, ?_⟩; replace a2 := rb_ a2 hb; replace a1 := rb_ a1 hb; replace a3 := bl_ a3 hb; replace HB := bp_ HB hb; (try clear hb); (try clear A7); (try clear hk); (try clear hi)) | ((with_reducible refine gd_ 16 rfl ?_); (try (refine gate_guard (by rfl) ?_; dsimp only)); refine box_event ?hg (N := 16) ?hd (cs := #[.int .i64 0, .int .i64 0]) (t := 48) ?hr ?_; (case hd => rfl); (case hg => rfl); (case hr => exact hr_); intro g4 hg al7 hbox hb; replace a2 := rb_ a2 hb; replace a1 := rb_ a1 hb; have c2 := mk_ (hbox); have t8 := gb_ hg HB; replace HB := bp_ HB hb; have t9 := t8; have h4 := nb_ hg a3; replace a3 := bl_ a3 hb; have n7 := ns_ h4; clear hb hbox hg; have ad9 := n7.out; have ae0 := h4.out; have P9 := bc0_ c2; have Q0 := bc1_ c2; have Q1 := bf_ c2 0; have Q2 := bf_ c2 1; have Q3 := bc0_ a3; have Q4 := bc1_ a3; have Q5 := bf_ a3 0; have Q6 := bf_ a3 1) | ((with_reducible refine gc_ 27 rfl ?_); refine gl_ (some 179) rfl Try.func27 #[.agg #[.slice (some c8) a7.length h7, .slice (some d4) a6.length c5], .int .i64 (wrap64 (o5 - 1))] ?_; (with_reducible refine (impl_At.calls kj79 _ _ a7 _ _ a6 (wrap64 (o5 - 1)) l2 m0 M1 _ ?g8 ?g9 ?j1 ?j7 H6.out).mono ?_); (case g8 => refine (Kd.R_reads' (e := 3) (base := w.heap.size) (ok := fun k_ => some k_ ≠ (.slice (some d4) a6.length c5 : Value).ownBlock) (n := a7.length) (c := h7) ?_).2.2; exact (by (with_reducible repeat (first | apply Kd.R_alloc | apply Kd.R_drewN | apply Kd.R_drew)); exact (Kd.R_mono (Kd.R_far (p := ⟨g4, 1, none⟩) (Kd.R_far (p := ⟨g4, 0, none⟩) (Kd.R_types a2.out c2.out (by decide)) (fun _ hk => hk.2) (.int .i64 m3)) (fun _ hk => hk.2) (.int .i64 m9)) (fun _ h_ => h_.1)))); (case g9 => exact (Kd.R_reads' a2.out).2.1); (case j1 => refine (Kd.R_reads' (e := 3) (base := w.heap.size) (ok := fun k_ => some k_ ≠ (.slice (some c8) a7.length h7 : Value).ownBlock) (n := a6.length) (c := c5) ?_).2.2; exact (by (with_reducible repeat (first | apply Kd.R_alloc | apply Kd.R_drewN | apply Kd.R_drew)); exact (Kd.R_mono (Kd.R_far (p := ⟨g4, 1, none⟩) (Kd.R_far (p := ⟨g4, 0, none⟩) (Kd.R_types a1.out c2.out (by decide)) (fun _ hk => hk.2) (.int .i64 m3)) (fun _ hk => hk.2) (.int .i64 m9)) (fun _ h_ => h_.1)))); (case j7 => exact (Kd.R_reads' a1.out).2.1); rintro e al8 ⟨rfl, hb⟩; refine ⟨_, rfl, ?_⟩; replace a2 := mk_ (Kd.R_below (by (with_reducible repeat (first | apply Kd.R_alloc | apply Kd.R_drewN | apply Kd.R_drew)); exact (Kd.R_mono (Kd.R_far (p := ⟨g4, 1, none⟩) (Kd.R_far (p := ⟨g4, 0, none⟩) (Kd.R_types a2.out c2.out (by decide)) (fun _ hk => hk.2) (.int .i64 m3)) (fun _ hk => hk.2) (.int .i64 m9)) (fun _ h_ => h_.1))) hb); replace a1 := mk_ (Kd.R_below (by (with_reducible repeat (first | apply Kd.R_alloc | apply Kd.R_drewN | apply Kd.R_drew)); exact (Kd.R_mono (Kd.R_far (p := ⟨g4, 1, none⟩) (Kd.R_far (p := ⟨g4, 0, none⟩) (Kd.R_types a1.out c2.out (by decide)) (fun _ hk => hk.2) (.int .i64 m3)) (fun _ hk => hk.2) (.int .i64 m9)) (fun _ h_ => h_.1))) hb); replace a3 := mk_ (blk_below (g := c4) (o := .cells #[.slice (some c8) a7.length h7, .slice (some d4) a6.length c5] 51 (0, 0)) (by (with_reducible repeat (first | refine blk_drewN ?_ _ | refine blk_drew ?_ | refine blk_alloc ?_ _)); refine blk_far ?_ h4.out _; (with_reducible repeat (first | refine blk_drewN ?_ _ | refine blk_drew ?_ | refine blk_alloc ?_ _)); refine blk_far ?_ h4.out _; (with_reducible repeat (first | refine blk_drewN ?_ _ | refine blk_drew ?_ | refine blk_alloc ?_ _)); exact a3.out) hb); replace c2 := mk_ (blk_below (g := g4) (o := .cells #[.int .i64 m3, .int .i64 m9] 48 (0, 0)) (by (with_reducible repeat (first | refine blk_drewN ?_ _ | refine blk_drew ?_ | refine blk_alloc ?_ _)); refine blk_put (cs := #[.int .i64 m3, .int .i64 0]) ?_ 1 _ rfl; (with_reducible repeat (first | refine blk_drewN ?_ _ | refine blk_drew ?_ | refine blk_alloc ?_ _)); refine blk_put (cs := #[.int .i64 0, .int .i64 0]) ?_ 0 _ rfl; (with_reducible repeat (first | refine blk_drewN ?_ _ | refine blk_drew ?_ | refine blk_alloc ?_ _)); exact c2.out) hb); replace HB := mk_ (below_step (by repeat (first | (with_reducible first | exact HB.out | apply below_alloc | apply pw_below_drewN | apply below_drew1 | refine below_set ?_ t9.out) | exact HB.out)) hb); (try clear hb); (try clear A7); (try clear hk); (try clear hi)) | ((with_reducible refine gd_ 18 rfl ?_); (try (refine gate_guard (by rfl) ?_; dsimp only)); refine box_event ?hg (N := 18) ?hd (cs := #[.int .i64 0, .int .i64 0]) (t := 48) ?hr ?_; (case hd => rfl); (case hg => rfl); (case hr => exact hr_); intro c6 hg B6 hbox hb; replace a2 := rb_ a2 hb; replace a1 := rb_ a1 hb; have g1 := mk_ (hbox); have y8 := gb_ hg HB; replace HB := bp_ HB hb; have y9 := y8; have h5 := nb_ hg a3; replace a3 := bl_ a3 hb; have n8 := ns_ h5; have h6 := nb_ hg c2; replace c2 := bl_ c2 hb; have n9 := ns_ h6; clear hb hbox hg; have ae1 := n8.out; have ae2 := h5.out; have ae3 := n9.out; have ae4 := h6.out; have Q7 := bc0_ g1; have Q8 := bc1_ g1; have Q9 := bf_ g1 0; have R0 := bf_ g1 1))
                have s4 : Aside0 (Kd.R (Kd.int .i64) 3 ((B6.setCell ⟨c6, 0, none⟩ (.int .i64 l2)).setCell ⟨c6, 1, none⟩ (.int .i64 m0)) w.heap.size (fun k_ => some k_ ≠ (.slice (some d4) a6.length c5 : Value).ownBlock) (.slice (some c8) a7.length h7) a7) := ⟨by (with_reducible repeat (first | apply Kd.R_alloc | apply Kd.R_drewN | apply Kd.R_drew)); exact Kd.R_mono (Kd.R_far (p := ⟨c6, 1, none⟩) (Kd.R_far (p := ⟨c6, 0, none⟩) (Kd.R_types a2.out g1.out (by decide)) (fun _ hk => hk.2) (.int .i64 l2)) (fun _ hk => hk.2) (.int .i64 m0)) (fun _ hk => hk.1)⟩
                have s5 : Aside0 (Kd.R (Kd.int .i64) 3 ((B6.setCell ⟨c6, 0, none⟩ (.int .i64 l2)).setCell ⟨c6, 1, none⟩ (.int .i64 m0)) w.heap.size (fun k_ => some k_ ≠ (.slice (some c8) a7.length h7 : Value).ownBlock) (.slice (some d4) a6.length c5) a6) := ⟨by (with_reducible repeat (first | apply Kd.R_alloc | apply Kd.R_drewN | apply Kd.R_drew)); exact Kd.R_mono (Kd.R_far (p := ⟨c6, 1, none⟩) (Kd.R_far (p := ⟨c6, 0, none⟩) (Kd.R_types a1.out g1.out (by decide)) (fun _ hk => hk.2) (.int .i64 l2)) (fun _ hk => hk.2) (.int .i64 m0)) (fun _ hk => hk.1)⟩
                have s6 : Aside0 (((B6.setCell ⟨c6, 0, none⟩ (.int .i64 l2)).setCell ⟨c6, 1, none⟩ (.int .i64 m0)).heap[c4]? = some (.cells #[.slice (some c8) a7.length h7, .slice (some d4) a6.length c5] 51 (0, 0))) := ⟨by (with_reducible repeat (first | refine blk_drewN ?_ _ | refine blk_drew ?_ | refine blk_alloc ?_ _)); refine blk_far ?_ h5.out _; (with_reducible repeat (first | refine blk_drewN ?_ _ | refine blk_drew ?_ | refine blk_alloc ?_ _)); refine blk_far ?_ h5.out _; (with_reducible repeat (first | refine blk_drewN ?_ _ | refine blk_drew ?_ | refine blk_alloc ?_ _)); exact a3.out⟩
                have s7 : Aside0 (((B6.setCell ⟨c6, 0, none⟩ (.int .i64 l2)).setCell ⟨c6, 1, none⟩ (.int .i64 m0)).heap[g4]? = some (.cells #[.int .i64 m3, .int .i64 m9] 48 (0, 0))) := ⟨by (with_reducible repeat (first | refine blk_drewN ?_ _ | refine blk_drew ?_ | refine blk_alloc ?_ _)); refine blk_far ?_ h6.out _; (with_reducible repeat (first | refine blk_drewN ?_ _ | refine blk_drew ?_ | refine blk_alloc ?_ _)); refine blk_far ?_ h6.out _; (with_reducible repeat (first | refine blk_drewN ?_ _ | refine blk_drew ?_ | refine blk_alloc ?_ _)); exact c2.out⟩
                have s8 : Aside0 (((B6.setCell ⟨c6, 0, none⟩ (.int .i64 l2)).setCell ⟨c6, 1, none⟩ (.int .i64 m0)).heap[c6]? = some (.cells #[.int .i64 l2, .int .i64 m0] 48 (0, 0))) := ⟨by (with_reducible repeat (first | refine blk_drewN ?_ _ | refine blk_drew ?_ | refine blk_alloc ?_ _)); refine blk_put (cs := #[.int .i64 l2, .int .i64 0]) ?_ 1 _ rfl; (with_reducible repeat (first | refine blk_drewN ?_ _ | refine blk_drew ?_ | refine blk_alloc ?_ _)); refine blk_put (cs := #[.int .i64 0, .int .i64 0]) ?_ 0 _ rfl; (with_reducible repeat (first | refine blk_drewN ?_ _ | refine blk_drew ?_ | refine blk_alloc ?_ _)); exact g1.out⟩
                have D8 : Aside0 (Below w.heap.size w ((B6.setCell ⟨c6, 0, none⟩ (.int .i64 l2)).setCell ⟨c6, 1, none⟩ (.int .i64 m0))) := ⟨by repeat (first | (with_reducible first | exact HB.out | apply below_alloc | apply pw_below_drewN | apply below_drew1 | refine below_set ?_ y9.out) | exact HB.out)⟩
                (try clear a2); (try clear a1); (try clear a3); (try clear c2); (try clear g1); (try clear HB)
                generalize ((B6.setCell ⟨c6, 0, none⟩ (.int .i64 l2)).setCell ⟨c6, 1, none⟩ (.int .i64 m0)) = ae5 at s4 s5 s6 s7 s8 D8 ⊢
                have a2 := s4
                have a1 := s5
                have a3 := s6
                have c2 := s7
                have g1 := s8
                have HB := D8
                clear s4 s5 s6 s7 s8 D8
                replace a2 := dR_ a2; replace a1 := dR_ a1; replace a3 := dB_ a3; replace c2 := dB_ c2; replace g1 := dB_ g1; replace HB := dH_ HB
                have p6 : 0 ≤ ((g0) : Int) := od_
                have p7 : (g0) < (a6.length : Int) := od_
                obtain ⟨A1, D9, n4⟩ := Kd.at_int (rr_ a1) (g0) p6 p7; obtain rfl : d4 = A1 := (by injection D9); replace p6 := eq_true p6; replace p7 := eq_true p7
                refine start_ (n := 35) (S := fun w' => w'.cell? ⟨g4, 0, none⟩ = some (.int .i64 m3) ∧ w'.cell? ⟨g4, 1, none⟩ = some (.int .i64 m9) ∧ w'.cell? ⟨c4, 0, none⟩ = some (.slice (some c8) a7.length h7) ∧ w'.cell? ⟨c4, 1, none⟩ = some (.slice (some d4) a6.length c5) ∧ w'.cell? (d4.add ((g0)).toNat) = some (.int .i64 (rd a6 (g0)))) (ds := []) (bs_ 35 0) (by kernel_rfl) rfl (by kernel_rfl) ⟨bc0_ c2, bc1_ c2, bc0_ a3, bc1_ a3, n4⟩ (fun hHeld => ?_); refine with_tabW laws_FnTables.tab27 laws_FnTables.bits27 (fun HT_ HW_ => ?_)
                generalize ae5.drew = al9 at a2 a1 a3 c2 g1 HB n4 hHeld ⊢
                refine pu_ HT_ 0 182 (bs_ 35 1) ?_; refine pu_ HT_ 2 184 (bs_ 35 5) ?_; refine pu_ HT_ 4 186 (bs_ 35 21) ?_; refine pu_ HT_ 10 192 (bs_ 35 1045) ?_; refine tk_ HT_ HW_ 1 183 (bs_ 35 1047) hHeld ?_; refine tk_ HT_ HW_ 3 185 (bs_ 35 1055) hHeld ?_; refine tk_ HT_ HW_ 5 187 (bs_ 35 1087) hHeld ?_; refine pu_ HT_ 6 188 (bs_ 35 1151) ?_; refine pu_ HT_ 7 189 (bs_ 35 1279) ?_; refine pu_ HT_ 8 190 (bs_ 35 1535) ?_; refine tk_ HT_ HW_ 9 191 (bs_ 35 2047) hHeld ?_; refine tk_ HT_ HW_ 11 193 (bs_ 35 4095) hHeld ?_; refine pu_ HT_ 12 194 (bs_ 35 8191) ?_; refine pu_ HT_ 13 195 (bs_ 35 16383) ?_; refine pu_ HT_ 14 196 (bs_ 35 32767) ?_; refine pn_ HT_ 15 197 (bs_ 35 65535) ?_; refine pn_ HT_ 16 198 (bs_ 35 131071) ?_; refine pn_ HT_ 17 199 (bs_ 35 262143) ?_; refine pn_ HT_ 18 200 (bs_ 35 524287) ?_; refine pn_ HT_ 19 201 (bs_ 35 1048575) ?_; refine pn_ HT_ 20 202 (bs_ 35 2097151) ?_; refine pn_ HT_ 21 203 (bs_ 35 4194303) ?_; refine pn_ HT_ 22 204 (bs_ 35 8388607) ?_; refine pn_ HT_ 23 205 (bs_ 35 16777215) ?_; refine pn_ HT_ 24 206 (bs_ 35 33554431) ?_; refine pn_ HT_ 25 207 (bs_ 35 67108863) ?_; refine pn_ HT_ 26 208 (bs_ 35 134217727) ?_; refine pn_ HT_ 27 209 (bs_ 35 268435455) ?_; refine pn_ HT_ 28 210 (bs_ 35 536870911) ?_; refine pn_ HT_ 29 211 (bs_ 35 1073741823) ?_; refine pn_ HT_ 30 212 (bs_ 35 2147483647) ?_; refine pn_ HT_ 31 213 (bs_ 35 4294967295) ?_; refine pn_ HT_ 32 214 (bs_ 35 8589934591) ?_; refine pu_ HT_ 33 215 (bs_ 35 17179869183) ?_; refine pu_ HT_ 34 2 (bs_ 35 34359738367) ?_
                refine done_ (done_of HT_.out (by kernel_rfl)) ?_
                try go_wp2
                go_ret
                exact ⟨by first | rfl | (simp [errW_none, errW_some] <;> rfl) | (simp only [← o3]; first | rfl | (simp [errW_none, errW_some] <;> rfl)) | (simp [*, errW_none, errW_some] <;> rfl), hw_ HB⟩
              ·replace c98 := Bool.eq_false_iff.mpr c98; subst c98; rw [if_neg (show ¬ (false = true) by decide)] at H; obtain rfl := Option.some.inj H
               try go_wp2
               replace a2 := dR_ a2; replace a1 := dR_ a1; replace a3 := dB_ a3; replace HB := dH_ HB
               have o7 : 0 ≤ ((g0) : Int) := od_
               have o8 : (g0) < (a6.length : Int) := od_
               obtain ⟨d4, B2, m5⟩ := Kd.at_int (rr_ a1) (g0) o7 o8; cases B2; replace o7 := eq_true o7; replace o8 := eq_true o8
               refine start_ (n := 15) (S := fun w' => w'.cell? ⟨c4, 0, none⟩ = some (.slice (some c8) a7.length h7) ∧ w'.cell? ⟨c4, 1, none⟩ = some (.slice (some d4) a6.length c5) ∧ w'.cell? (d4.add ((g0)).toNat) = some (.int .i64 (rd a6 (g0)))) (ds := []) (bs_ 15 0) (by kernel_rfl) rfl (by kernel_rfl) ⟨bc0_ a3, bc1_ a3, m5⟩ (fun hHeld => ?_); refine with_tabW laws_FnTables.tab22 laws_FnTables.bits22 (fun HT_ HW_ => ?_)
               generalize wc.drew = am0 at a2 a1 a3 HB m5 hHeld ⊢
               refine pu_ HT_ 1 156 (bs_ 15 2) ?_; refine pu_ HT_ 3 158 (bs_ 15 10) ?_; refine tk_ HT_ HW_ 0 155 (bs_ 15 11) hHeld ?_; refine tk_ HT_ HW_ 2 157 (bs_ 15 15) hHeld ?_; refine tk_ HT_ HW_ 4 159 (bs_ 15 31) hHeld ?_; refine pu_ HT_ 5 160 (bs_ 15 63) ?_; refine pu_ HT_ 6 161 (bs_ 15 127) ?_; refine pu_ HT_ 7 162 (bs_ 15 255) ?_; refine tk_ HT_ HW_ 8 163 (bs_ 15 511) hHeld ?_
               refine one_ (i := 9) (N := some 164) (bs_ 15 1023) rfl rfl (one_of HT_.out (by kernel_rfl)) (by decide) (fun K hK => ?_)
               refine goes_ Try.func34 (by kernel_rfl) rfl #[.agg #[.slice (some c8) a7.length h7, .slice (some d4) a6.length c5], .int .i64 (rd a6 (g0))] (by rfl) rfl rfl (by (try simp only [List.map_toArray, List.map_cons, List.map_nil]); first | done | (simp only [o3]; rfl) | rfl | (simp only [List.length_drop, List.length_take]; rfl)) ?_
               with_reducible refine (impl_Find.calls kj79 _ _ a7 _ _ a6 (rd a6 (g0)) o5 false _ ?g8 ?g9 ?j1 ?j7 A97.out).mono ?_
               (case g8 => exact cw_ (rr_ a2))
               (case g9 => exact (Kd.R_reads' a2.out).2.1)
               (case j1 => exact cw_ (rr_ a1))
               (case j7 => exact (Kd.R_reads' a1.out).2.1)
               rintro e am1 ⟨rfl, hb⟩
               have B3 := (hb.cell (World.block_lt_of_cell? _ _ (hHeld.2.2))).trans (hHeld.2.2)
               refine ⟨_, rfl, ?_⟩
               replace a2 := rk_ a2 hb; replace a1 := rk_ a1 hb; replace a3 := bk_ a3 hb; replace HB := hk_ HB hb
               (try clear hb); (try clear A7); (try clear hk); (try clear hi)
               refine hK.out _ _ ⟨bc0_ a3, bc1_ a3, B3⟩ (fun hHeld => ?_)
               clear hK K; refine nm_ 164 ?_; refine pu_ HT_ 10 154 (bs_ 15 2047) ?_; refine pu_ HT_ 11 165 (bs_ 15 4095) ?_; refine pu_ HT_ 12 166 (bs_ 15 8191) ?_; refine pu_ HT_ 13 14 (bs_ 15 16383) ?_; refine pu_ HT_ 14 15 (bs_ 15 32767) ?_
               refine done_ (done_of HT_.out (by kernel_rfl)) ?_
               try go_wp2
               go_ret
               exact ⟨by first | rfl | (simp [errW_none, errW_some] <;> rfl) | (simp only [← o3]; first | rfl | (simp [errW_none, errW_some] <;> rfl)) | (simp [*, errW_none, errW_some] <;> rfl), hw_ HB⟩
             ·rw [if_neg c96] at H
              exact absurd H (by simp)
            ·rw [if_neg c95] at H
             exact absurd H (by simp)
        ·rw [if_neg c78] at H
         exact absurd H (by simp)

/-- THE ONE PURE STATEMENT of laws_FnTables: yours. -/
def laws_FnTables.Pure : Prop := ∀ (l0 : List Int), l0.length ≤ maxLen → l0.length * 1 ≤ 140737488351232 → (∀ x ∈ l0, (Lit.int .u8 x).wf = true) → ∃ k, laws_FnTables.f k l0 = some true
theorem laws_FnTables.walk (P : laws_FnTables.Pure) (a0 : Option Addr) (len0 cap0 : Nat) (z0 : List Int) (w : World) (w0 : (a0 = none ∧ len0 = 0 ∧ cap0 = 0 ∧ z0 = []) ∨ ∃ x, a0 = some x ∧ len0 ≤ cap0 ∧ cap0 ≤ maxLen ∧ z0.length = cap0 ∧ (∀ i, i < z0.length → w.cell? (x.add i) = some (.int .u8 (z0.getD i 0))) ∧ ∀ n ∈ z0, (Lit.int .u8 n).wf = true) (y0 : len0 * 1 ≤ 140737488351232) :
  Calls Try.prog 6 #[.slice a0 len0 cap0] w fun e w' => e = .returned (.bool true) ∧ Below w.heap.size w w' := by
 obtain ⟨l0, rfl, hr0, hm0, hw0, hc0⟩ := ReadsInt.ofRowC w0
 obtain ⟨k, h⟩ := P l0 hm0 y0 hw0
 refine (laws_FnTables.calls k _ _ l0 true w (Kd.C_of_reads (d := (0 : Int)) (h1 := fun _ => rfl) hr0) hc0 h).mono ?_
 rintro e w' ⟨rfl, hd⟩
 exact ⟨rfl, hd⟩

end Go.Proofs.Ytnphbpkpjinddaa.QFnTables
-- squeezed
