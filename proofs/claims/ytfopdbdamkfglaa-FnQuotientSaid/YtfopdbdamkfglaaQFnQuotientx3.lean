/- Lean functions that tell what the Go functions used by one law answer, and for each a proof that the Go code comes to just these answers; no condition. Printed by this session's own program over the kit's printer. -/
import Derived.Test.YtfopdbdamkfglaaQFnQuotientx0
import Derived.Test.YtfopdbdamkfglaaQFnQuotientx1
import Derived.Test.YtfopdbdamkfglaaQFnQuotientx2
namespace Go.Proofs.Ytfopdbdamkfglaa.QFnQuotient
open Go.RowKit Go.Proofs.YtfopdbdamkfglaaW.PrintWords Go.Proofs.YtfopdbdamkfglaaW.PrintLast Go.Proofs.YtfopdbdamkfglaaW.PrintMore
attribute [local go_sem] max2_int min2_int max_two min_two max_three min_three max_four min_four   -- for this text's walks alone
attribute [local go_sem high] go_eql go_neq go_lss go_leq go_gtr go_geq go_store   -- for this text's walks alone
set_option linter.unusedVariables false
set_option linter.unusedSimpArgs false

/-! ### laws_FnQuotient: function 10 -/
mutual
def laws_FnQuotient.j0 : Nat → List (S80) → Bool → Fl → Fl → Fl → Fl → Option (Bool)
 | 0, _, _, _, _, _, _ => none
 | k + 1, x10, x80, x181000, x181001, x187000, x187001 => if x80 = true then (some false) else (laws_FnQuotient.l0 k x10 0 x181000 x181001 x187000 x187001)
def laws_FnQuotient.l0 : Nat → List (S80) → Int → Fl → Fl → Fl → Fl → Option (Bool)
 | 0, _, _, _, _, _, _ => none
 | k + 1, x10, x12, x181000, x181001, x187000, x187001 => if x12 < 9 then (if 0 ≤ x12 then (if x12 < (x10.length : Int) then (if 0 ≤ (Int.tmod x12 4) then (if (Int.tmod x12 4) < (x10.length : Int) then (if (fcmp .neq .f32 ((rd_T80 x10 x12).f0) ((rd_T80 x10 (Int.tmod x12 4)).f0)) = true then (laws_FnQuotient.j2 k x10 x12 true x181000 x181001 x187000 x187001) else (laws_FnQuotient.j2 k x10 x12 (fcmp .neq .f32 ((rd_T80 x10 x12).f1) ((rd_T80 x10 (Int.tmod x12 4)).f1)) x181000 x181001 x187000 x187001)) else (none)) else (none)) else (none)) else (none)) else ((impl_Flutter.f x181000 x181001 x187000 x187001 x181000 x181001 x187000 x187001).bind fun bt206 => ((impl_CxLess.f x181000 x181001 x181000 x181001).bind fun bt212 => (if (fcmp .eql .f64 bt206.1 (cn .f64 0)) = true then (if (fcmp .eql .f64 bt206.2.1 (cn .f64 0)) = true then (if (fcmp .eql .f64 bt206.2.2.1 (fop .add .f64 x181000 x187000)) = true then (if (fcmp .eql .f64 bt212.1 (cn .f64 0)) = true then (if (fcmp .eql .f64 bt212.2 (cn .f64 0)) = true then (if 0 < (x10.length : Int) then (some (fcmp .eql .f32 ((rd_T80 x10 0).f0) (cn .f32 1065353216))) else (none)) else (some false)) else (some false)) else (some false)) else (some false)) else (some false))))
def laws_FnQuotient.j2 : Nat → List (S80) → Int → Bool → Fl → Fl → Fl → Fl → Option (Bool)
 | 0, _, _, _, _, _, _, _ => none
 | k + 1, x10, x12, x110, x181000, x181001, x187000, x187001 => if x110 = true then (some false) else (laws_FnQuotient.l0 k x10 (wrap64 (x12 + 1)) x181000 x181001 x187000 x187001)
end
def laws_FnQuotient.f (k : Nat) (l0 : List Int) : Option (Bool) := (laws_big.f l0).bind fun t175 => (if t175 = true then (some true) else ((laws_at.f l0 0).bind fun t176 => ((some (fint .f64 (wrap64 (t176 - 128)) : Fl)).bind fun ft177 => ((laws_at.f l0 1).bind fun t178 => ((some (fint .f64 (wrap64 (t178 - 128)) : Fl)).bind fun ft179 => ((some (([(⟨(cn .f64 4607182418800017408), (cn .f64 0)⟩ : S34), (⟨(cn .f64 4611686018427387904), (cn .f64 0)⟩ : S34), (⟨(cn .f64 0), (cn .f64 4607182418800017408)⟩ : S34), (⟨(cn .f64 13839561654909534208), (cn .f64 0)⟩ : S34), (⟨(cn .f64 0), (cn .f64 13835058055282163712)⟩ : S34), (⟨(cn .f64 4607182418800017408), (cn .f64 4607182418800017408)⟩ : S34)] : List (S34)) : List (S34))).bind fun y181 => ((laws_at.f l0 2).bind fun t184 => (if (y181.length : Int) = 0 then (none) else (if 0 ≤ (Int.tmod t184 (y181.length : Int)) then (if (Int.tmod t184 (y181.length : Int)) < (y181.length : Int) then ((some ((rd_T34 y181 (Int.tmod t184 (y181.length : Int))).f0 : Fl)).bind fun fr185_0 => ((some ((rd_T34 y181 (Int.tmod t184 (y181.length : Int))).f1 : Fl)).bind fun fr185_1 => ((impl_CxTimes.f ft177 ft179 fr185_0 fr185_1).bind fun bt187 => ((impl_CxOver.f k bt187.1 bt187.2 fr185_0 fr185_1).bind fun bt189 => ((impl_CxOver.f k ft177 ft179 (cn .f64 0) (cn .f64 0)).bind fun bt193 => ((impl_Steps4.f k (cn .f64 0) (cn .f64 4607182418800017408) 8).bind fun bt197 => (if bt189.2.2 = true then (if bt193.2.2 = true then (laws_FnQuotient.j0 k bt197.1 true ft177 ft179 fr185_0 fr185_1) else ((impl_CxSame.f bt189.1 bt189.2.1 ft177 ft179).bind fun t201 => (if t201 = true then (if bt197.2 = true then (laws_FnQuotient.j0 k bt197.1 ((bt197.1.length : Int) != 9) ft177 ft179 fr185_0 fr185_1) else (laws_FnQuotient.j0 k bt197.1 true ft177 ft179 fr185_0 fr185_1)) else (laws_FnQuotient.j0 k bt197.1 true ft177 ft179 fr185_0 fr185_1)))) else (laws_FnQuotient.j0 k bt197.1 true ft177 ft179 fr185_0 fr185_1)))))))) else (none)) else (none))))))))))
theorem laws_FnQuotient.mono_l : ∀ k, (∀ y0 y1 y2 y3 y4 y5, LeO (laws_FnQuotient.j0 k y0 y1 y2 y3 y4 y5) (laws_FnQuotient.j0 (k + 1) y0 y1 y2 y3 y4 y5)) ∧ (∀ y0 y1 y2 y3 y4 y5, LeO (laws_FnQuotient.l0 k y0 y1 y2 y3 y4 y5) (laws_FnQuotient.l0 (k + 1) y0 y1 y2 y3 y4 y5)) ∧ (∀ y0 y1 y2 y3 y4 y5 y6, LeO (laws_FnQuotient.j2 k y0 y1 y2 y3 y4 y5 y6) (laws_FnQuotient.j2 (k + 1) y0 y1 y2 y3 y4 y5 y6))
 | 0 => ⟨fun _ _ _ _ _ _ r h => by simp [laws_FnQuotient.j0] at h, fun _ _ _ _ _ _ r h => by simp [laws_FnQuotient.l0] at h, fun _ _ _ _ _ _ _ r h => by simp [laws_FnQuotient.j2] at h⟩
 | k + 1 => by
  obtain ⟨ih0, ih1, ih2⟩ := laws_FnQuotient.mono_l k
  refine ⟨?_, ?_, ?_⟩
  ·intro y0 y1 y2 y3 y4 y5
   unfold laws_FnQuotient.j0
   repeat' first
   | (with_reducible exact ih0 _ _ _ _ _ _)
   | (with_reducible exact ih1 _ _ _ _ _ _)
   | (with_reducible exact ih2 _ _ _ _ _ _ _)
   | (with_reducible exact impl_CxOver.mono _ _ _ _ _)
   | (with_reducible exact impl_Steps4.mono _ _ _ _)
   | (with_reducible exact LeO.refl _)
   | (with_reducible exact LeO.none _)
   | (with_reducible refine LeO.ite ?_ ?_)
   | (with_reducible refine LeO.bind ?_ (fun _ => ?_))
   | exact ih0 _ _ _ _ _ _
   | exact ih1 _ _ _ _ _ _
   | exact ih2 _ _ _ _ _ _ _
   | exact impl_CxOver.mono _ _ _ _ _
   | exact impl_Steps4.mono _ _ _ _
   | exact LeO.none _
   | refine LeO.ite ?_ ?_
   | refine LeO.bind ?_ (fun _ => ?_)
  ·intro y0 y1 y2 y3 y4 y5
   unfold laws_FnQuotient.l0
   repeat' first
   | (with_reducible exact ih0 _ _ _ _ _ _)
   | (with_reducible exact ih1 _ _ _ _ _ _)
   | (with_reducible exact ih2 _ _ _ _ _ _ _)
   | (with_reducible exact impl_CxOver.mono _ _ _ _ _)
   | (with_reducible exact impl_Steps4.mono _ _ _ _)
   | (with_reducible exact LeO.refl _)
   | (with_reducible exact LeO.none _)
   | (with_reducible refine LeO.ite ?_ ?_)
   | (with_reducible refine LeO.bind ?_ (fun _ => ?_))
   | exact ih0 _ _ _ _ _ _
   | exact ih1 _ _ _ _ _ _
   | exact ih2 _ _ _ _ _ _ _
   | exact impl_CxOver.mono _ _ _ _ _
   | exact impl_Steps4.mono _ _ _ _
   | exact LeO.none _
   | refine LeO.ite ?_ ?_
   | refine LeO.bind ?_ (fun _ => ?_)
  ·intro y0 y1 y2 y3 y4 y5 y6
   unfold laws_FnQuotient.j2
   repeat' first
   | (with_reducible exact ih0 _ _ _ _ _ _)
   | (with_reducible exact ih1 _ _ _ _ _ _)
   | (with_reducible exact ih2 _ _ _ _ _ _ _)
   | (with_reducible exact impl_CxOver.mono _ _ _ _ _)
   | (with_reducible exact impl_Steps4.mono _ _ _ _)
   | (with_reducible exact LeO.refl _)
   | (with_reducible exact LeO.none _)
   | (with_reducible refine LeO.ite ?_ ?_)
   | (with_reducible refine LeO.bind ?_ (fun _ => ?_))
   | exact ih0 _ _ _ _ _ _
   | exact ih1 _ _ _ _ _ _
   | exact ih2 _ _ _ _ _ _ _
   | exact impl_CxOver.mono _ _ _ _ _
   | exact impl_Steps4.mono _ _ _ _
   | exact LeO.none _
   | refine LeO.ite ?_ ?_
   | refine LeO.bind ?_ (fun _ => ?_)
theorem laws_FnQuotient.mono : ∀ a0 k, LeO (laws_FnQuotient.f k a0) (laws_FnQuotient.f (k + 1) a0) := by
 intro a0 k
 obtain ⟨ih0, ih1, ih2⟩ := laws_FnQuotient.mono_l k
 unfold laws_FnQuotient.f
 repeat' first
   | (with_reducible exact ih0 _ _ _ _ _ _)
   | (with_reducible exact ih1 _ _ _ _ _ _)
   | (with_reducible exact ih2 _ _ _ _ _ _ _)
   | (with_reducible exact impl_CxOver.mono _ _ _ _ _)
   | (with_reducible exact impl_Steps4.mono _ _ _ _)
   | (with_reducible exact LeO.refl _)
   | (with_reducible exact LeO.none _)
   | (with_reducible refine LeO.ite ?_ ?_)
   | (with_reducible refine LeO.bind ?_ (fun _ => ?_))
   | exact ih0 _ _ _ _ _ _
   | exact ih1 _ _ _ _ _ _
   | exact ih2 _ _ _ _ _ _ _
   | exact impl_CxOver.mono _ _ _ _ _
   | exact impl_Steps4.mono _ _ _ _
   | exact LeO.none _
   | refine LeO.ite ?_ ?_
   | refine LeO.bind ?_ (fun _ => ?_)
def laws_FnQuotient.T6 : Bool × List (List Nat × List Nat) := (true, [([], []), ([], []), ([0, 1], [0, 1]), ([], []), ([2, 3, 2], [2, 3]), ([4], [4]), ([5], [5]), ([5], [5]), ([], []), ([8, 6, 4, 0, 1, 2, 3, 4, 5, 6, 8], [6, 8]), ([7, 9, 0, 1, 2, 3, 4, 5, 6, 7, 8, 9], [7])])
def laws_FnQuotient.B6 : List Nat := [0, 0, 3, 0, 15, 31, 63, 63, 0, 383, 1023]
theorem laws_FnQuotient.tab6 : rtab .any (opsOf Try.f10 6) = laws_FnQuotient.T6 := by kernel_rfl
theorem laws_FnQuotient.bits6 : waitsOk laws_FnQuotient.T6.2 laws_FnQuotient.B6 = true := by kernel_rfl
def laws_FnQuotient.T14 : Bool × List (List Nat × List Nat) := (true, [([], []), ([], []), ([0, 1], [0, 1]), ([2], [2]), ([3], [3]), ([], []), ([], []), ([6], [6]), ([5, 7], [5, 7]), ([8], [8]), ([9], [9]), ([4, 10], [4, 10]), ([11], [11]), ([12], [12]), ([12], [12]), ([13, 14, 12], [12, 13, 14]), ([15, 12], [12, 15]), ([16, 12], [12, 16]), ([12], [12]), ([12], [12]), ([19, 12], [12, 19]), ([18, 20, 12], [12, 18, 20]), ([21, 12], [12, 21]), ([22, 12], [12, 22]), ([17, 23, 12], [12, 17, 23]), ([12, 24], [12, 24])])
def laws_FnQuotient.B14 : List Nat := [0, 0, 3, 7, 15, 0, 0, 64, 224, 480, 992, 2047, 4095, 8191, 8191, 32767, 65535, 131071, 8191, 8191, 532479, 1843199, 3940351, 8134655, 16777215, 33554431]
theorem laws_FnQuotient.tab14 : rtab .any (opsOf Try.f10 14) = laws_FnQuotient.T14 := by kernel_rfl
theorem laws_FnQuotient.bits14 : waitsOk laws_FnQuotient.T14.2 laws_FnQuotient.B14 = true := by kernel_rfl
set_option maxHeartbeats 8000000 in
set_option maxRecDepth 100000 in
theorem laws_FnQuotient.calls (k : Nat) (A0 : Option Addr) (c0 : Nat) (l0 : List Int) (r : Bool) (w : World) (hr0 : Kd.C (Kd.int .u8) w A0 l0.length l0) (hc0 : l0.length ≤ c0) (h : laws_FnQuotient.f k l0 = some r) :
  Calls Try.prog 10 #[.slice A0 l0.length c0] w fun e w' => e = .returned (.bool r) ∧ Below w.heap.size w w' := by
 have hu34 := Try.underlying34
 have HR0 := Aside0.mk hr0
 have HC0 := Aside0.mk hc0
 clear hr0 hc0
 have HB := Aside0.mk (Below.refl w.heap.size w)
 have H : ((laws_big.f l0).bind fun t175 => (if t175 = true then (some true) else ((laws_at.f l0 0).bind fun t176 => ((some (fint .f64 (wrap64 (t176 - 128)) : Fl)).bind fun ft177 => ((laws_at.f l0 1).bind fun t178 => ((some (fint .f64 (wrap64 (t178 - 128)) : Fl)).bind fun ft179 => ((some (([(⟨(cn .f64 4607182418800017408), (cn .f64 0)⟩ : S34), (⟨(cn .f64 4611686018427387904), (cn .f64 0)⟩ : S34), (⟨(cn .f64 0), (cn .f64 4607182418800017408)⟩ : S34), (⟨(cn .f64 13839561654909534208), (cn .f64 0)⟩ : S34), (⟨(cn .f64 0), (cn .f64 13835058055282163712)⟩ : S34), (⟨(cn .f64 4607182418800017408), (cn .f64 4607182418800017408)⟩ : S34)] : List (S34)) : List (S34))).bind fun y181 => ((laws_at.f l0 2).bind fun t184 => (if (y181.length : Int) = 0 then (none) else (if 0 ≤ (Int.tmod t184 (y181.length : Int)) then (if (Int.tmod t184 (y181.length : Int)) < (y181.length : Int) then ((some ((rd_T34 y181 (Int.tmod t184 (y181.length : Int))).f0 : Fl)).bind fun fr185_0 => ((some ((rd_T34 y181 (Int.tmod t184 (y181.length : Int))).f1 : Fl)).bind fun fr185_1 => ((impl_CxTimes.f ft177 ft179 fr185_0 fr185_1).bind fun bt187 => ((impl_CxOver.f k bt187.1 bt187.2 fr185_0 fr185_1).bind fun bt189 => ((impl_CxOver.f k ft177 ft179 (cn .f64 0) (cn .f64 0)).bind fun bt193 => ((impl_Steps4.f k (cn .f64 0) (cn .f64 4607182418800017408) 8).bind fun bt197 => (if bt189.2.2 = true then (if bt193.2.2 = true then (laws_FnQuotient.j0 k bt197.1 true ft177 ft179 fr185_0 fr185_1) else ((impl_CxSame.f bt189.1 bt189.2.1 ft177 ft179).bind fun t201 => (if t201 = true then (if bt197.2 = true then (laws_FnQuotient.j0 k bt197.1 ((bt197.1.length : Int) != 9) ft177 ft179 fr185_0 fr185_1) else (laws_FnQuotient.j0 k bt197.1 true ft177 ft179 fr185_0 fr185_1)) else (laws_FnQuotient.j0 k bt197.1 true ft177 ft179 fr185_0 fr185_1)))) else (laws_FnQuotient.j0 k bt197.1 true ft177 ft179 fr185_0 fr185_1)))))))) else (none)) else (none))))))))))) = some r := h
 clear h
 replace H := Option.bind_eq_some_iff.mp H
 obtain ⟨t175, A20, H⟩ := H
 replace H : (if t175 = true then (some true) else ((laws_at.f l0 0).bind fun t176 => ((some (fint .f64 (wrap64 (t176 - 128)) : Fl)).bind fun ft177 => ((laws_at.f l0 1).bind fun t178 => ((some (fint .f64 (wrap64 (t178 - 128)) : Fl)).bind fun ft179 => ((some (([(⟨(cn .f64 4607182418800017408), (cn .f64 0)⟩ : S34), (⟨(cn .f64 4611686018427387904), (cn .f64 0)⟩ : S34), (⟨(cn .f64 0), (cn .f64 4607182418800017408)⟩ : S34), (⟨(cn .f64 13839561654909534208), (cn .f64 0)⟩ : S34), (⟨(cn .f64 0), (cn .f64 13835058055282163712)⟩ : S34), (⟨(cn .f64 4607182418800017408), (cn .f64 4607182418800017408)⟩ : S34)] : List (S34)) : List (S34))).bind fun y181 => ((laws_at.f l0 2).bind fun t184 => (if (y181.length : Int) = 0 then (none) else (if 0 ≤ (Int.tmod t184 (y181.length : Int)) then (if (Int.tmod t184 (y181.length : Int)) < (y181.length : Int) then ((some ((rd_T34 y181 (Int.tmod t184 (y181.length : Int))).f0 : Fl)).bind fun fr185_0 => ((some ((rd_T34 y181 (Int.tmod t184 (y181.length : Int))).f1 : Fl)).bind fun fr185_1 => ((impl_CxTimes.f ft177 ft179 fr185_0 fr185_1).bind fun bt187 => ((impl_CxOver.f k bt187.1 bt187.2 fr185_0 fr185_1).bind fun bt189 => ((impl_CxOver.f k ft177 ft179 (cn .f64 0) (cn .f64 0)).bind fun bt193 => ((impl_Steps4.f k (cn .f64 0) (cn .f64 4607182418800017408) 8).bind fun bt197 => (if bt189.2.2 = true then (if bt193.2.2 = true then (laws_FnQuotient.j0 k bt197.1 true ft177 ft179 fr185_0 fr185_1) else ((impl_CxSame.f bt189.1 bt189.2.1 ft177 ft179).bind fun t201 => (if t201 = true then (if bt197.2 = true then (laws_FnQuotient.j0 k bt197.1 ((bt197.1.length : Int) != 9) ft177 ft179 fr185_0 fr185_1) else (laws_FnQuotient.j0 k bt197.1 true ft177 ft179 fr185_0 fr185_1)) else (laws_FnQuotient.j0 k bt197.1 true ft177 ft179 fr185_0 fr185_1)))) else (laws_FnQuotient.j0 k bt197.1 true ft177 ft179 fr185_0 fr185_1)))))))) else (none)) else (none)))))))))) = some r := H
 have A2 := Aside0.mk A20
 clear A20
 by_cases c3 : t175 = true
 ·subst c3
  have H1 : (some true) = some r := by rw [if_pos rfl] at H; exact H
  clear H
  have H := H1
  clear H1
  obtain rfl := Option.some.inj H
  go_enter Try.func10, Try.ntmps10
  go_wp2_with (first | ((with_reducible refine gate_callee (f := 48) rfl ?_); refine goesL_ (some 17) rfl rfl Try.func48 (by kernel_rfl) rfl #[.slice A0 l0.length c0] rfl (by (try simp only [List.map_toArray, List.map_cons, List.map_nil]); first | done | rfl | (simp only [List.length_drop, List.length_take]; rfl)) ?_; (with_reducible refine (laws_big.calls _ _ l0 true _ ?side1 ?side2 A2.out).mono ?_); (case side1 => repeat (first | exact HR0.out | (with_reducible refine Kd.C_alloc ?_ _) | (with_reducible refine Kd.C_drewN ?_ _) | (with_reducible refine Kd.C_drew ?_))); (case side2 => exact HC0.out); rintro e w' ⟨rfl, ⟨nd, rfl⟩⟩; refine ⟨_, rfl, ?_⟩))
  go_ret
  exact ⟨by first | rfl | (simp [errW_none, errW_some] <;> rfl) | (simp [*, errW_none, errW_some] <;> rfl), by repeat (first | (with_reducible first | exact HB.out | apply below_alloc | apply pw_below_drewN | apply below_drew1) | exact HB.out)⟩
 ·replace c3 := Bool.eq_false_iff.mpr c3
  subst c3
  have H1 : ((laws_at.f l0 0).bind fun t176 => ((some (fint .f64 (wrap64 (t176 - 128)) : Fl)).bind fun ft177 => ((laws_at.f l0 1).bind fun t178 => ((some (fint .f64 (wrap64 (t178 - 128)) : Fl)).bind fun ft179 => ((some (([(⟨(cn .f64 4607182418800017408), (cn .f64 0)⟩ : S34), (⟨(cn .f64 4611686018427387904), (cn .f64 0)⟩ : S34), (⟨(cn .f64 0), (cn .f64 4607182418800017408)⟩ : S34), (⟨(cn .f64 13839561654909534208), (cn .f64 0)⟩ : S34), (⟨(cn .f64 0), (cn .f64 13835058055282163712)⟩ : S34), (⟨(cn .f64 4607182418800017408), (cn .f64 4607182418800017408)⟩ : S34)] : List (S34)) : List (S34))).bind fun y181 => ((laws_at.f l0 2).bind fun t184 => (if (y181.length : Int) = 0 then (none) else (if 0 ≤ (Int.tmod t184 (y181.length : Int)) then (if (Int.tmod t184 (y181.length : Int)) < (y181.length : Int) then ((some ((rd_T34 y181 (Int.tmod t184 (y181.length : Int))).f0 : Fl)).bind fun fr185_0 => ((some ((rd_T34 y181 (Int.tmod t184 (y181.length : Int))).f1 : Fl)).bind fun fr185_1 => ((impl_CxTimes.f ft177 ft179 fr185_0 fr185_1).bind fun bt187 => ((impl_CxOver.f k bt187.1 bt187.2 fr185_0 fr185_1).bind fun bt189 => ((impl_CxOver.f k ft177 ft179 (cn .f64 0) (cn .f64 0)).bind fun bt193 => ((impl_Steps4.f k (cn .f64 0) (cn .f64 4607182418800017408) 8).bind fun bt197 => (if bt189.2.2 = true then (if bt193.2.2 = true then (laws_FnQuotient.j0 k bt197.1 true ft177 ft179 fr185_0 fr185_1) else ((impl_CxSame.f bt189.1 bt189.2.1 ft177 ft179).bind fun t201 => (if t201 = true then (if bt197.2 = true then (laws_FnQuotient.j0 k bt197.1 ((bt197.1.length : Int) != 9) ft177 ft179 fr185_0 fr185_1) else (laws_FnQuotient.j0 k bt197.1 true ft177 ft179 fr185_0 fr185_1)) else (laws_FnQuotient.j0 k bt197.1 true ft177 ft179 fr185_0 fr185_1)))) else (laws_FnQuotient.j0 k bt197.1 true ft177 ft179 fr185_0 fr185_1)))))))) else (none)) else (none))))))))) = some r := by rw [if_neg (show ¬ (false = true) by decide)] at H; exact H
  clear H
  have H := H1
  clear H1
  replace H := Option.bind_eq_some_iff.mp H
  obtain ⟨t176, A40, H⟩ := H
  replace H : ((some (fint .f64 (wrap64 (t176 - 128)) : Fl)).bind fun ft177 => ((laws_at.f l0 1).bind fun t178 => ((some (fint .f64 (wrap64 (t178 - 128)) : Fl)).bind fun ft179 => ((some (([(⟨(cn .f64 4607182418800017408), (cn .f64 0)⟩ : S34), (⟨(cn .f64 4611686018427387904), (cn .f64 0)⟩ : S34), (⟨(cn .f64 0), (cn .f64 4607182418800017408)⟩ : S34), (⟨(cn .f64 13839561654909534208), (cn .f64 0)⟩ : S34), (⟨(cn .f64 0), (cn .f64 13835058055282163712)⟩ : S34), (⟨(cn .f64 4607182418800017408), (cn .f64 4607182418800017408)⟩ : S34)] : List (S34)) : List (S34))).bind fun y181 => ((laws_at.f l0 2).bind fun t184 => (if (y181.length : Int) = 0 then (none) else (if 0 ≤ (Int.tmod t184 (y181.length : Int)) then (if (Int.tmod t184 (y181.length : Int)) < (y181.length : Int) then ((some ((rd_T34 y181 (Int.tmod t184 (y181.length : Int))).f0 : Fl)).bind fun fr185_0 => ((some ((rd_T34 y181 (Int.tmod t184 (y181.length : Int))).f1 : Fl)).bind fun fr185_1 => ((impl_CxTimes.f ft177 ft179 fr185_0 fr185_1).bind fun bt187 => ((impl_CxOver.f k bt187.1 bt187.2 fr185_0 fr185_1).bind fun bt189 => ((impl_CxOver.f k ft177 ft179 (cn .f64 0) (cn .f64 0)).bind fun bt193 => ((impl_Steps4.f k (cn .f64 0) (cn .f64 4607182418800017408) 8).bind fun bt197 => (if bt189.2.2 = true then (if bt193.2.2 = true then (laws_FnQuotient.j0 k bt197.1 true ft177 ft179 fr185_0 fr185_1) else ((impl_CxSame.f bt189.1 bt189.2.1 ft177 ft179).bind fun t201 => (if t201 = true then (if bt197.2 = true then (laws_FnQuotient.j0 k bt197.1 ((bt197.1.length : Int) != 9) ft177 ft179 fr185_0 fr185_1) else (laws_FnQuotient.j0 k bt197.1 true ft177 ft179 fr185_0 fr185_1)) else (laws_FnQuotient.j0 k bt197.1 true ft177 ft179 fr185_0 fr185_1)))) else (laws_FnQuotient.j0 k bt197.1 true ft177 ft179 fr185_0 fr185_1)))))))) else (none)) else (none)))))))) = some r := H
  have A4 := Aside0.mk A40
  clear A40
  obtain ⟨ft177, hft177⟩ : ∃ y_ : Fl, y_ = (fint .f64 (wrap64 (t176 - 128))) := ⟨_, rfl⟩
  replace H : ((laws_at.f l0 1).bind fun t178 => ((some (fint .f64 (wrap64 (t178 - 128)) : Fl)).bind fun ft179 => ((some (([(⟨(cn .f64 4607182418800017408), (cn .f64 0)⟩ : S34), (⟨(cn .f64 4611686018427387904), (cn .f64 0)⟩ : S34), (⟨(cn .f64 0), (cn .f64 4607182418800017408)⟩ : S34), (⟨(cn .f64 13839561654909534208), (cn .f64 0)⟩ : S34), (⟨(cn .f64 0), (cn .f64 13835058055282163712)⟩ : S34), (⟨(cn .f64 4607182418800017408), (cn .f64 4607182418800017408)⟩ : S34)] : List (S34)) : List (S34))).bind fun y181 => ((laws_at.f l0 2).bind fun t184 => (if (y181.length : Int) = 0 then (none) else (if 0 ≤ (Int.tmod t184 (y181.length : Int)) then (if (Int.tmod t184 (y181.length : Int)) < (y181.length : Int) then ((some ((rd_T34 y181 (Int.tmod t184 (y181.length : Int))).f0 : Fl)).bind fun fr185_0 => ((some ((rd_T34 y181 (Int.tmod t184 (y181.length : Int))).f1 : Fl)).bind fun fr185_1 => ((impl_CxTimes.f ft177 ft179 fr185_0 fr185_1).bind fun bt187 => ((impl_CxOver.f k bt187.1 bt187.2 fr185_0 fr185_1).bind fun bt189 => ((impl_CxOver.f k ft177 ft179 (cn .f64 0) (cn .f64 0)).bind fun bt193 => ((impl_Steps4.f k (cn .f64 0) (cn .f64 4607182418800017408) 8).bind fun bt197 => (if bt189.2.2 = true then (if bt193.2.2 = true then (laws_FnQuotient.j0 k bt197.1 true ft177 ft179 fr185_0 fr185_1) else ((impl_CxSame.f bt189.1 bt189.2.1 ft177 ft179).bind fun t201 => (if t201 = true then (if bt197.2 = true then (laws_FnQuotient.j0 k bt197.1 ((bt197.1.length : Int) != 9) ft177 ft179 fr185_0 fr185_1) else (laws_FnQuotient.j0 k bt197.1 true ft177 ft179 fr185_0 fr185_1)) else (laws_FnQuotient.j0 k bt197.1 true ft177 ft179 fr185_0 fr185_1)))) else (laws_FnQuotient.j0 k bt197.1 true ft177 ft179 fr185_0 fr185_1)))))))) else (none)) else (none))))))) = some r := by first | (rw [hft177]; with_reducible exact H) | (have H2_ := (Option.bind_some _ _).symm.trans H; rw [hft177]; with_reducible exact H2_) | (have H2_ := (Option.bind_some _ _).symm.trans H; with_reducible exact H2_) | with_reducible exact H | (rw [hft177]; exact H) | exact H
  have Nft177 := Aside0.mk hft177
  clear hft177
  replace H := Option.bind_eq_some_iff.mp H
  obtain ⟨t178, A50, H⟩ := H
  replace H : ((some (fint .f64 (wrap64 (t178 - 128)) : Fl)).bind fun ft179 => ((some (([(⟨(cn .f64 4607182418800017408), (cn .f64 0)⟩ : S34), (⟨(cn .f64 4611686018427387904), (cn .f64 0)⟩ : S34), (⟨(cn .f64 0), (cn .f64 4607182418800017408)⟩ : S34), (⟨(cn .f64 13839561654909534208), (cn .f64 0)⟩ : S34), (⟨(cn .f64 0), (cn .f64 13835058055282163712)⟩ : S34), (⟨(cn .f64 4607182418800017408), (cn .f64 4607182418800017408)⟩ : S34)] : List (S34)) : List (S34))).bind fun y181 => ((laws_at.f l0 2).bind fun t184 => (if (y181.length : Int) = 0 then (none) else (if 0 ≤ (Int.tmod t184 (y181.length : Int)) then (if (Int.tmod t184 (y181.length : Int)) < (y181.length : Int) then ((some ((rd_T34 y181 (Int.tmod t184 (y181.length : Int))).f0 : Fl)).bind fun fr185_0 => ((some ((rd_T34 y181 (Int.tmod t184 (y181.length : Int))).f1 : Fl)).bind fun fr185_1 => ((impl_CxTimes.f ft177 ft179 fr185_0 fr185_1).bind fun bt187 => ((impl_CxOver.f k bt187.1 bt187.2 fr185_0 fr185_1).bind fun bt189 => ((impl_CxOver.f k ft177 ft179 (cn .f64 0) (cn .f64 0)).bind fun bt193 => ((impl_Steps4.f k (cn .f64 0) (cn .f64 4607182418800017408) 8).bind fun bt197 => (if bt189.2.2 = true then (if bt193.2.2 = true then (laws_FnQuotient.j0 k bt197.1 true ft177 ft179 fr185_0 fr185_1) else ((impl_CxSame.f bt189.1 bt189.2.1 ft177 ft179).bind fun t201 => (if t201 = true then (if bt197.2 = true then (laws_FnQuotient.j0 k bt197.1 ((bt197.1.length : Int) != 9) ft177 ft179 fr185_0 fr185_1) else (laws_FnQuotient.j0 k bt197.1 true ft177 ft179 fr185_0 fr185_1)) else (laws_FnQuotient.j0 k bt197.1 true ft177 ft179 fr185_0 fr185_1)))) else (laws_FnQuotient.j0 k bt197.1 true ft177 ft179 fr185_0 fr185_1)))))))) else (none)) else (none)))))) = some r := H
  have A5 := Aside0.mk A50
  clear A50
  obtain ⟨ft179, hft179⟩ : ∃ y_ : Fl, y_ = (fint .f64 (wrap64 (t178 - 128))) := ⟨_, rfl⟩
  replace H : ((some (([(⟨(cn .f64 4607182418800017408), (cn .f64 0)⟩ : S34), (⟨(cn .f64 4611686018427387904), (cn .f64 0)⟩ : S34), (⟨(cn .f64 0), (cn .f64 4607182418800017408)⟩ : S34), (⟨(cn .f64 13839561654909534208), (cn .f64 0)⟩ : S34), (⟨(cn .f64 0), (cn .f64 13835058055282163712)⟩ : S34), (⟨(cn .f64 4607182418800017408), (cn .f64 4607182418800017408)⟩ : S34)] : List (S34)) : List (S34))).bind fun y181 => ((laws_at.f l0 2).bind fun t184 => (if (y181.length : Int) = 0 then (none) else (if 0 ≤ (Int.tmod t184 (y181.length : Int)) then (if (Int.tmod t184 (y181.length : Int)) < (y181.length : Int) then ((some ((rd_T34 y181 (Int.tmod t184 (y181.length : Int))).f0 : Fl)).bind fun fr185_0 => ((some ((rd_T34 y181 (Int.tmod t184 (y181.length : Int))).f1 : Fl)).bind fun fr185_1 => ((impl_CxTimes.f ft177 ft179 fr185_0 fr185_1).bind fun bt187 => ((impl_CxOver.f k bt187.1 bt187.2 fr185_0 fr185_1).bind fun bt189 => ((impl_CxOver.f k ft177 ft179 (cn .f64 0) (cn .f64 0)).bind fun bt193 => ((impl_Steps4.f k (cn .f64 0) (cn .f64 4607182418800017408) 8).bind fun bt197 => (if bt189.2.2 = true then (if bt193.2.2 = true then (laws_FnQuotient.j0 k bt197.1 true ft177 ft179 fr185_0 fr185_1) else ((impl_CxSame.f bt189.1 bt189.2.1 ft177 ft179).bind fun t201 => (if t201 = true then (if bt197.2 = true then (laws_FnQuotient.j0 k bt197.1 ((bt197.1.length : Int) != 9) ft177 ft179 fr185_0 fr185_1) else (laws_FnQuotient.j0 k bt197.1 true ft177 ft179 fr185_0 fr185_1)) else (laws_FnQuotient.j0 k bt197.1 true ft177 ft179 fr185_0 fr185_1)))) else (laws_FnQuotient.j0 k bt197.1 true ft177 ft179 fr185_0 fr185_1)))))))) else (none)) else (none))))) = some r := by first | (rw [hft179]; with_reducible exact H) | (have H2_ := (Option.bind_some _ _).symm.trans H; rw [hft179]; with_reducible exact H2_) | (have H2_ := (Option.bind_some _ _).symm.trans H; with_reducible exact H2_) | with_reducible exact H | (rw [hft179]; exact H) | exact H
  have Nft179 := Aside0.mk hft179
  clear hft179
  obtain ⟨y181, hy181⟩ : ∃ y_ : List (S34), y_ = (([(⟨(cn .f64 4607182418800017408), (cn .f64 0)⟩ : S34), (⟨(cn .f64 4611686018427387904), (cn .f64 0)⟩ : S34), (⟨(cn .f64 0), (cn .f64 4607182418800017408)⟩ : S34), (⟨(cn .f64 13839561654909534208), (cn .f64 0)⟩ : S34), (⟨(cn .f64 0), (cn .f64 13835058055282163712)⟩ : S34), (⟨(cn .f64 4607182418800017408), (cn .f64 4607182418800017408)⟩ : S34)] : List (S34))) := ⟨_, rfl⟩
  replace H : ((laws_at.f l0 2).bind fun t184 => (if (y181.length : Int) = 0 then (none) else (if 0 ≤ (Int.tmod t184 (y181.length : Int)) then (if (Int.tmod t184 (y181.length : Int)) < (y181.length : Int) then ((some ((rd_T34 y181 (Int.tmod t184 (y181.length : Int))).f0 : Fl)).bind fun fr185_0 => ((some ((rd_T34 y181 (Int.tmod t184 (y181.length : Int))).f1 : Fl)).bind fun fr185_1 => ((impl_CxTimes.f ft177 ft179 fr185_0 fr185_1).bind fun bt187 => ((impl_CxOver.f k bt187.1 bt187.2 fr185_0 fr185_1).bind fun bt189 => ((impl_CxOver.f k ft177 ft179 (cn .f64 0) (cn .f64 0)).bind fun bt193 => ((impl_Steps4.f k (cn .f64 0) (cn .f64 4607182418800017408) 8).bind fun bt197 => (if bt189.2.2 = true then (if bt193.2.2 = true then (laws_FnQuotient.j0 k bt197.1 true ft177 ft179 fr185_0 fr185_1) else ((impl_CxSame.f bt189.1 bt189.2.1 ft177 ft179).bind fun t201 => (if t201 = true then (if bt197.2 = true then (laws_FnQuotient.j0 k bt197.1 ((bt197.1.length : Int) != 9) ft177 ft179 fr185_0 fr185_1) else (laws_FnQuotient.j0 k bt197.1 true ft177 ft179 fr185_0 fr185_1)) else (laws_FnQuotient.j0 k bt197.1 true ft177 ft179 fr185_0 fr185_1)))) else (laws_FnQuotient.j0 k bt197.1 true ft177 ft179 fr185_0 fr185_1)))))))) else (none)) else (none)))) = some r := by first | (rw [hy181]; with_reducible exact H) | (have H2_ := (Option.bind_some _ _).symm.trans H; rw [hy181]; with_reducible exact H2_) | (have H2_ := (Option.bind_some _ _).symm.trans H; with_reducible exact H2_) | with_reducible exact H | (rw [hy181]; exact H) | exact H
  have Ny181 := Aside0.mk hy181
  clear hy181
  replace H := Option.bind_eq_some_iff.mp H
  obtain ⟨t184, A60, H⟩ := H
  replace H : (if (y181.length : Int) = 0 then (none) else (if 0 ≤ (Int.tmod t184 (y181.length : Int)) then (if (Int.tmod t184 (y181.length : Int)) < (y181.length : Int) then ((some ((rd_T34 y181 (Int.tmod t184 (y181.length : Int))).f0 : Fl)).bind fun fr185_0 => ((some ((rd_T34 y181 (Int.tmod t184 (y181.length : Int))).f1 : Fl)).bind fun fr185_1 => ((impl_CxTimes.f ft177 ft179 fr185_0 fr185_1).bind fun bt187 => ((impl_CxOver.f k bt187.1 bt187.2 fr185_0 fr185_1).bind fun bt189 => ((impl_CxOver.f k ft177 ft179 (cn .f64 0) (cn .f64 0)).bind fun bt193 => ((impl_Steps4.f k (cn .f64 0) (cn .f64 4607182418800017408) 8).bind fun bt197 => (if bt189.2.2 = true then (if bt193.2.2 = true then (laws_FnQuotient.j0 k bt197.1 true ft177 ft179 fr185_0 fr185_1) else ((impl_CxSame.f bt189.1 bt189.2.1 ft177 ft179).bind fun t201 => (if t201 = true then (if bt197.2 = true then (laws_FnQuotient.j0 k bt197.1 ((bt197.1.length : Int) != 9) ft177 ft179 fr185_0 fr185_1) else (laws_FnQuotient.j0 k bt197.1 true ft177 ft179 fr185_0 fr185_1)) else (laws_FnQuotient.j0 k bt197.1 true ft177 ft179 fr185_0 fr185_1)))) else (laws_FnQuotient.j0 k bt197.1 true ft177 ft179 fr185_0 fr185_1)))))))) else (none)) else (none))) = some r := H
  have A6 := Aside0.mk A60
  clear A60
  by_cases c7 : (y181.length : Int) = 0
  ·rw [if_pos c7] at H
   exact absurd H (by simp)
  ·rw [if_neg c7] at H
   have c7b0 : ((y181.length : Int) == 0) = false := beq_eq_false_iff_ne.mpr c7
   have c7b1 : ((y181.length : Int) != 0) = true := bne_iff_ne.mpr c7
   have c7b2 : ¬ (y181 = []) := fun h_ => c7 (by rw [h_]; rfl)
   obtain ⟨ji8, hji8⟩ : ∃ j_ : Int, (Int.tmod t184 (y181.length : Int)) = j_ := ⟨_, rfl⟩
   replace H : (if 0 ≤ (ji8) then (if (ji8) < (y181.length : Int) then ((some ((rd_T34 y181 (ji8)).f0 : Fl)).bind fun fr185_0 => ((some ((rd_T34 y181 (ji8)).f1 : Fl)).bind fun fr185_1 => ((impl_CxTimes.f ft177 ft179 fr185_0 fr185_1).bind fun bt187 => ((impl_CxOver.f k bt187.1 bt187.2 fr185_0 fr185_1).bind fun bt189 => ((impl_CxOver.f k ft177 ft179 (cn .f64 0) (cn .f64 0)).bind fun bt193 => ((impl_Steps4.f k (cn .f64 0) (cn .f64 4607182418800017408) 8).bind fun bt197 => (if bt189.2.2 = true then (if bt193.2.2 = true then (laws_FnQuotient.j0 k bt197.1 true ft177 ft179 fr185_0 fr185_1) else ((impl_CxSame.f bt189.1 bt189.2.1 ft177 ft179).bind fun t201 => (if t201 = true then (if bt197.2 = true then (laws_FnQuotient.j0 k bt197.1 ((bt197.1.length : Int) != 9) ft177 ft179 fr185_0 fr185_1) else (laws_FnQuotient.j0 k bt197.1 true ft177 ft179 fr185_0 fr185_1)) else (laws_FnQuotient.j0 k bt197.1 true ft177 ft179 fr185_0 fr185_1)))) else (laws_FnQuotient.j0 k bt197.1 true ft177 ft179 fr185_0 fr185_1)))))))) else (none)) else (none)) = some r := by first | (rw [hji8] at H; exact H) | (simp only [hji8] at H ⊢; exact H)
   (try rw [hji8] at A2)
   (try rw [hji8] at A4)
   (try rw [hji8] at A5)
   (try rw [hji8] at A6)
   by_cases c9 : 0 ≤ (ji8)
   ·rw [if_pos c9] at H
    have c9b0 : decide (0 ≤ (ji8)) = true := decide_eq_true c9
    clear c9
    by_cases c10 : (ji8) < (y181.length : Int)
    ·rw [if_pos c10] at H
     have c10b0 : decide ((ji8) < (y181.length : Int)) = true := decide_eq_true c10
     clear c10
     obtain ⟨fr185_0, hfr185_0⟩ : ∃ y_ : Fl, y_ = ((rd_T34 y181 (ji8)).f0) := ⟨_, rfl⟩
     replace H : ((some ((rd_T34 y181 (ji8)).f1 : Fl)).bind fun fr185_1 => ((impl_CxTimes.f ft177 ft179 fr185_0 fr185_1).bind fun bt187 => ((impl_CxOver.f k bt187.1 bt187.2 fr185_0 fr185_1).bind fun bt189 => ((impl_CxOver.f k ft177 ft179 (cn .f64 0) (cn .f64 0)).bind fun bt193 => ((impl_Steps4.f k (cn .f64 0) (cn .f64 4607182418800017408) 8).bind fun bt197 => (if bt189.2.2 = true then (if bt193.2.2 = true then (laws_FnQuotient.j0 k bt197.1 true ft177 ft179 fr185_0 fr185_1) else ((impl_CxSame.f bt189.1 bt189.2.1 ft177 ft179).bind fun t201 => (if t201 = true then (if bt197.2 = true then (laws_FnQuotient.j0 k bt197.1 ((bt197.1.length : Int) != 9) ft177 ft179 fr185_0 fr185_1) else (laws_FnQuotient.j0 k bt197.1 true ft177 ft179 fr185_0 fr185_1)) else (laws_FnQuotient.j0 k bt197.1 true ft177 ft179 fr185_0 fr185_1)))) else (laws_FnQuotient.j0 k bt197.1 true ft177 ft179 fr185_0 fr185_1))))))) = some r := by first | (rw [hfr185_0]; with_reducible exact H) | (have H2_ := (Option.bind_some _ _).symm.trans H; rw [hfr185_0]; with_reducible exact H2_) | (have H2_ := (Option.bind_some _ _).symm.trans H; with_reducible exact H2_) | with_reducible exact H | (rw [hfr185_0]; exact H) | exact H
     have Nfr185_0 := Aside0.mk hfr185_0
     clear hfr185_0
     obtain ⟨fr185_1, hfr185_1⟩ : ∃ y_ : Fl, y_ = ((rd_T34 y181 (ji8)).f1) := ⟨_, rfl⟩
     replace H : ((impl_CxTimes.f ft177 ft179 fr185_0 fr185_1).bind fun bt187 => ((impl_CxOver.f k bt187.1 bt187.2 fr185_0 fr185_1).bind fun bt189 => ((impl_CxOver.f k ft177 ft179 (cn .f64 0) (cn .f64 0)).bind fun bt193 => ((impl_Steps4.f k (cn .f64 0) (cn .f64 4607182418800017408) 8).bind fun bt197 => (if bt189.2.2 = true then (if bt193.2.2 = true then (laws_FnQuotient.j0 k bt197.1 true ft177 ft179 fr185_0 fr185_1) else ((impl_CxSame.f bt189.1 bt189.2.1 ft177 ft179).bind fun t201 => (if t201 = true then (if bt197.2 = true then (laws_FnQuotient.j0 k bt197.1 ((bt197.1.length : Int) != 9) ft177 ft179 fr185_0 fr185_1) else (laws_FnQuotient.j0 k bt197.1 true ft177 ft179 fr185_0 fr185_1)) else (laws_FnQuotient.j0 k bt197.1 true ft177 ft179 fr185_0 fr185_1)))) else (laws_FnQuotient.j0 k bt197.1 true ft177 ft179 fr185_0 fr185_1)))))) = some r := by first | (rw [hfr185_1]; with_reducible exact H) | (have H2_ := (Option.bind_some _ _).symm.trans H; rw [hfr185_1]; with_reducible exact H2_) | (have H2_ := (Option.bind_some _ _).symm.trans H; with_reducible exact H2_) | with_reducible exact H | (rw [hfr185_1]; exact H) | exact H
     have Nfr185_1 := Aside0.mk hfr185_1
     clear hfr185_1
     replace H := Option.bind_eq_some_iff.mp H
     obtain ⟨⟨t187, t188⟩, A110, H⟩ := H
     replace H : ((impl_CxOver.f k t187 t188 fr185_0 fr185_1).bind fun bt189 => ((impl_CxOver.f k ft177 ft179 (cn .f64 0) (cn .f64 0)).bind fun bt193 => ((impl_Steps4.f k (cn .f64 0) (cn .f64 4607182418800017408) 8).bind fun bt197 => (if bt189.2.2 = true then (if bt193.2.2 = true then (laws_FnQuotient.j0 k bt197.1 true ft177 ft179 fr185_0 fr185_1) else ((impl_CxSame.f bt189.1 bt189.2.1 ft177 ft179).bind fun t201 => (if t201 = true then (if bt197.2 = true then (laws_FnQuotient.j0 k bt197.1 ((bt197.1.length : Int) != 9) ft177 ft179 fr185_0 fr185_1) else (laws_FnQuotient.j0 k bt197.1 true ft177 ft179 fr185_0 fr185_1)) else (laws_FnQuotient.j0 k bt197.1 true ft177 ft179 fr185_0 fr185_1)))) else (laws_FnQuotient.j0 k bt197.1 true ft177 ft179 fr185_0 fr185_1))))) = some r := H
     have A11 := Aside0.mk A110
     clear A110
     replace H := Option.bind_eq_some_iff.mp H
     obtain ⟨⟨t189, t190, t191⟩, A120, H⟩ := H
     replace H : ((impl_CxOver.f k ft177 ft179 (cn .f64 0) (cn .f64 0)).bind fun bt193 => ((impl_Steps4.f k (cn .f64 0) (cn .f64 4607182418800017408) 8).bind fun bt197 => (if t191 = true then (if bt193.2.2 = true then (laws_FnQuotient.j0 k bt197.1 true ft177 ft179 fr185_0 fr185_1) else ((impl_CxSame.f t189 t190 ft177 ft179).bind fun t201 => (if t201 = true then (if bt197.2 = true then (laws_FnQuotient.j0 k bt197.1 ((bt197.1.length : Int) != 9) ft177 ft179 fr185_0 fr185_1) else (laws_FnQuotient.j0 k bt197.1 true ft177 ft179 fr185_0 fr185_1)) else (laws_FnQuotient.j0 k bt197.1 true ft177 ft179 fr185_0 fr185_1)))) else (laws_FnQuotient.j0 k bt197.1 true ft177 ft179 fr185_0 fr185_1)))) = some r := H
     have A12 := Aside0.mk A120
     clear A120
     replace H := Option.bind_eq_some_iff.mp H
     obtain ⟨⟨t193, t194, t195⟩, A130, H⟩ := H
     replace H : ((impl_Steps4.f k (cn .f64 0) (cn .f64 4607182418800017408) 8).bind fun bt197 => (if t191 = true then (if t195 = true then (laws_FnQuotient.j0 k bt197.1 true ft177 ft179 fr185_0 fr185_1) else ((impl_CxSame.f t189 t190 ft177 ft179).bind fun t201 => (if t201 = true then (if bt197.2 = true then (laws_FnQuotient.j0 k bt197.1 ((bt197.1.length : Int) != 9) ft177 ft179 fr185_0 fr185_1) else (laws_FnQuotient.j0 k bt197.1 true ft177 ft179 fr185_0 fr185_1)) else (laws_FnQuotient.j0 k bt197.1 true ft177 ft179 fr185_0 fr185_1)))) else (laws_FnQuotient.j0 k bt197.1 true ft177 ft179 fr185_0 fr185_1))) = some r := H
     have A13 := Aside0.mk A130
     clear A130
     replace H := Option.bind_eq_some_iff.mp H
     obtain ⟨⟨t197, t200⟩, A140, H⟩ := H
     replace H : (if t191 = true then (if t195 = true then (laws_FnQuotient.j0 k t197 true ft177 ft179 fr185_0 fr185_1) else ((impl_CxSame.f t189 t190 ft177 ft179).bind fun t201 => (if t201 = true then (if t200 = true then (laws_FnQuotient.j0 k t197 ((t197.length : Int) != 9) ft177 ft179 fr185_0 fr185_1) else (laws_FnQuotient.j0 k t197 true ft177 ft179 fr185_0 fr185_1)) else (laws_FnQuotient.j0 k t197 true ft177 ft179 fr185_0 fr185_1)))) else (laws_FnQuotient.j0 k t197 true ft177 ft179 fr185_0 fr185_1)) = some r := H
     have A14 := Aside0.mk A140
     clear A140
     have HC15 := Aside0.mk H
     clear H
     go_enter Try.func10, Try.ntmps10
     try go_wp2_with (first | ((with_reducible refine gate_callee (f := 48) rfl ?_); refine goesL_ (some 17) rfl rfl Try.func48 (by kernel_rfl) rfl #[.slice A0 l0.length c0] rfl (by (try simp only [List.map_toArray, List.map_cons, List.map_nil]); first | done | rfl | (simp only [List.length_drop, List.length_take]; rfl)) ?_; (with_reducible refine (laws_big.calls _ _ l0 false _ ?side1 ?side2 A2.out).mono ?_); (case side1 => repeat (first | exact HR0.out | (with_reducible refine Kd.C_alloc ?_ _) | (with_reducible refine Kd.C_drewN ?_ _) | (with_reducible refine Kd.C_drew ?_))); (case side2 => exact HC0.out); rintro e w' ⟨rfl, ⟨nd, rfl⟩⟩; refine ⟨_, rfl, ?_⟩) | ((with_reducible refine gate_callee (f := 49) rfl ?_); refine goesL_ (some 19) rfl rfl Try.func49 (by kernel_rfl) rfl #[.slice A0 l0.length c0, .int .i64 0] rfl (by (try simp only [List.map_toArray, List.map_cons, List.map_nil]); first | done | rfl | (simp only [List.length_drop, List.length_take]; rfl)) ?_; (with_reducible refine (laws_at.calls _ _ l0 0 t176 _ ?side1 ?side2 A4.out).mono ?_); (case side1 => repeat (first | exact HR0.out | (with_reducible refine Kd.C_alloc ?_ _) | (with_reducible refine Kd.C_drewN ?_ _) | (with_reducible refine Kd.C_drew ?_))); (case side2 => exact HC0.out); rintro e w' ⟨rfl, ⟨nd, rfl⟩⟩; refine ⟨_, rfl, ?_⟩) | ((with_reducible refine gate_dst (N := 21) rfl ?_); (try (refine gate_guard (by rfl) ?_; dsimp only)); refine fint_event rfl (N := 21) rfl rfl .f64 .i64 (wrap64 (t176 - 128)) Try.underlying3 Try.underlying23 rfl ?_; intro b_ft177 nf_ hF_; replace hF_ := hF_.trans Nft177.out.symm; have hF_ft177 := hF_; clear hF_) | ((with_reducible refine gate_callee (f := 49) rfl ?_); refine goesL_ (some 23) rfl rfl Try.func49 (by kernel_rfl) rfl #[.slice A0 l0.length c0, .int .i64 1] rfl (by (try simp only [List.map_toArray, List.map_cons, List.map_nil]); first | done | rfl | (simp only [List.length_drop, List.length_take]; rfl)) ?_; (with_reducible refine (laws_at.calls _ _ l0 1 t178 _ ?side1 ?side2 A5.out).mono ?_); (case side1 => repeat (first | exact HR0.out | (with_reducible refine Kd.C_alloc ?_ _) | (with_reducible refine Kd.C_drewN ?_ _) | (with_reducible refine Kd.C_drew ?_))); (case side2 => exact HC0.out); rintro e w' ⟨rfl, ⟨nd, rfl⟩⟩; refine ⟨_, rfl, ?_⟩) | ((with_reducible refine gate_dst (N := 25) rfl ?_); (try (refine gate_guard (by rfl) ?_; dsimp only)); refine fint_event rfl (N := 25) rfl rfl .f64 .i64 (wrap64 (t178 - 128)) Try.underlying3 Try.underlying23 rfl ?_; intro b_ft179 nf_ hF_; replace hF_ := hF_.trans Nft179.out.symm; have hF_ft179 := hF_; clear hF_) | ((with_reducible refine gate_dst (N := 3) rfl ?_); (try (refine gate_guard (by rfl) ?_; dsimp only)); refine box_event ?hg (N := 3) ?hd (cs := #[.float .f64 0, .float .f64 0]) (t := 34) ?hr ?_; (case hd => rfl); (case hg => rfl); (case hr => first | (go_simp; done) | (go_simp; rfl)); intro gb180 hg w16 hbox hb; have n0_ := Aside0.mk (below_step (by repeat (first | (with_reducible first | exact HB.out | apply below_alloc | apply pw_below_drewN | apply below_drew1) | exact HB.out)) hb); have n1_ := Aside0.mk (hbox); have n2_ := Aside0.mk ((by rw [hg]; exact (below_size (by repeat (first | (with_reducible first | exact HB.out | apply below_alloc | apply pw_below_drewN | apply below_drew1) | exact HB.out))) : w.heap.size ≤ gb180)); have n3_ := Aside0.mk ((n2_.out)); clear HB; have HB := n0_; have BK180 := n1_; have GW180 := n2_; have GE180 := n3_; clear n0_ n1_ n2_ n3_; clear hb hbox hg; have hcz17_0 : w16.cell? ⟨gb180, 0, none⟩ = some (.float .f64 0) := (blk_cell BK180.out 0).trans rfl; have hcz17_1 : w16.cell? ⟨gb180, 1, none⟩ = some (.float .f64 0) := (blk_cell BK180.out 1).trans rfl; have hfz17_0 := blk_frozen BK180.out 0; have hfz17_1 := blk_frozen BK180.out 1) | ((with_reducible refine gate_dst (N := 33) rfl ?_); (try (refine gate_guard (by rfl) ?_; dsimp only)); refine Kd.R_lit k34 _ 34 ?hg (N := 33) ?hd (xs := ([(⟨(cn .f64 4607182418800017408), (cn .f64 0)⟩ : S34), (⟨(cn .f64 4611686018427387904), (cn .f64 0)⟩ : S34), (⟨(cn .f64 0), (cn .f64 4607182418800017408)⟩ : S34), (⟨(cn .f64 13839561654909534208), (cn .f64 0)⟩ : S34), (⟨(cn .f64 0), (cn .f64 13835058055282163712)⟩ : S34), (⟨(cn .f64 4607182418800017408), (cn .f64 4607182418800017408)⟩ : S34)] : List (S34))) (inner := [.float .f64 4607182418800017408, .float .f64 0, .float .f64 4611686018427387904, .float .f64 0, .float .f64 0, .float .f64 4607182418800017408, .float .f64 13839561654909534208, .float .f64 0, .float .f64 0, .float .f64 13835058055282163712, .float .f64 4607182418800017408, .float .f64 4607182418800017408]) (ok := fun _ => True) (okp := fun _ => True) ?hr ?hp (fun _ hk => hk) trivial (Below.refl _ _) (Nat.le_refl _) (by simp) ?_; (case hd => rfl); (case hg => rfl); (case hr => first | (go_simp; done) | (go_simp; rfl)); (case hp => exact (Reps.c2 (show Kd.M k34 _ _ _ (⟨(cn .f64 4607182418800017408), (cn .f64 0)⟩ : S34) [.float .f64 4607182418800017408, .float .f64 0] from (k34_mkM _ _ _ (⟨(cn .f64 4607182418800017408), (cn .f64 0)⟩ : S34) rfl rfl)) (Reps.c2 (show Kd.M k34 _ _ _ (⟨(cn .f64 4611686018427387904), (cn .f64 0)⟩ : S34) [.float .f64 4611686018427387904, .float .f64 0] from (k34_mkM _ _ _ (⟨(cn .f64 4611686018427387904), (cn .f64 0)⟩ : S34) rfl rfl)) (Reps.c2 (show Kd.M k34 _ _ _ (⟨(cn .f64 0), (cn .f64 4607182418800017408)⟩ : S34) [.float .f64 0, .float .f64 4607182418800017408] from (k34_mkM _ _ _ (⟨(cn .f64 0), (cn .f64 4607182418800017408)⟩ : S34) rfl rfl)) (Reps.c2 (show Kd.M k34 _ _ _ (⟨(cn .f64 13839561654909534208), (cn .f64 0)⟩ : S34) [.float .f64 13839561654909534208, .float .f64 0] from (k34_mkM _ _ _ (⟨(cn .f64 13839561654909534208), (cn .f64 0)⟩ : S34) rfl rfl)) (Reps.c2 (show Kd.M k34 _ _ _ (⟨(cn .f64 0), (cn .f64 13835058055282163712)⟩ : S34) [.float .f64 0, .float .f64 13835058055282163712] from (k34_mkM _ _ _ (⟨(cn .f64 0), (cn .f64 13835058055282163712)⟩ : S34) rfl rfl)) (Reps.c2 (show Kd.M k34 _ _ _ (⟨(cn .f64 4607182418800017408), (cn .f64 4607182418800017408)⟩ : S34) [.float .f64 4607182418800017408, .float .f64 4607182418800017408] from (k34_mkM _ _ _ (⟨(cn .f64 4607182418800017408), (cn .f64 4607182418800017408)⟩ : S34) rfl rfl)) (Reps.none _ _)))))))); intro v182 w18 ho19 hb hg_ hnew_; clear hg_ hnew_; (first | rw [← Ny181.out] at ho19 | (simp only [Int.reduceToNat] at ho19; rw [← Ny181.out] at ho19)); have n0_ := Aside0.mk (Kd.R_lower (Kd.R_newB ho19 (g := gb180) (o := .cells #[.float .f64 b_ft177, .float .f64 b_ft179] 34 (0, 0)) (by (with_reducible repeat (first | refine blk_drewN ?_ _ | refine blk_drew ?_ | refine blk_alloc ?_ _)); refine blk_put (cs := #[.float .f64 b_ft177, .float .f64 0]) ?_ 1 _ rfl; (with_reducible repeat (first | refine blk_drewN ?_ _ | refine blk_drew ?_ | refine blk_alloc ?_ _)); refine blk_put (cs := #[.float .f64 0, .float .f64 0]) ?_ 0 _ rfl; (with_reducible repeat (first | refine blk_drewN ?_ _ | refine blk_drew ?_ | refine blk_alloc ?_ _)); exact BK180.out)) (below_size (by repeat (first | (with_reducible first | exact HB.out | apply below_alloc | apply pw_below_drewN | apply below_drew1 | refine below_set ?_ GE180.out) | exact HB.out)))); have n1_ := Aside0.mk (blk_below (g := gb180) (o := .cells #[.float .f64 b_ft177, .float .f64 b_ft179] 34 (0, 0)) (by (with_reducible repeat (first | refine blk_drewN ?_ _ | refine blk_drew ?_ | refine blk_alloc ?_ _)); refine blk_put (cs := #[.float .f64 b_ft177, .float .f64 0]) ?_ 1 _ rfl; (with_reducible repeat (first | refine blk_drewN ?_ _ | refine blk_drew ?_ | refine blk_alloc ?_ _)); refine blk_put (cs := #[.float .f64 0, .float .f64 0]) ?_ 0 _ rfl; (with_reducible repeat (first | refine blk_drewN ?_ _ | refine blk_drew ?_ | refine blk_alloc ?_ _)); exact BK180.out) hb); have n2_ := Aside0.mk (below_step (by repeat (first | (with_reducible first | exact HB.out | apply below_alloc | apply pw_below_drewN | apply below_drew1 | refine below_set ?_ GE180.out) | exact HB.out)) hb); clear BK180; clear HB; have HO183 := n0_; have BK180 := n1_; have HB := n2_; clear n0_ n1_ n2_; clear hb ho19) | ((with_reducible refine gate_callee (f := 49) rfl ?_); refine goesL_ (some 36) rfl rfl Try.func49 (by kernel_rfl) rfl #[.slice A0 l0.length c0, .int .i64 2] rfl (by (try simp only [List.map_toArray, List.map_cons, List.map_nil]); first | done | rfl | (simp only [List.length_drop, List.length_take]; rfl)) ?_; (with_reducible refine (laws_at.calls _ _ l0 2 t184 _ ?side1 ?side2 A6.out).mono ?_); (case side1 => repeat (first | exact (Kd.C_below HR0.out HB.out) | (with_reducible refine Kd.C_alloc ?_ _) | (with_reducible refine Kd.C_drewN ?_ _) | (with_reducible refine Kd.C_drew ?_))); (case side2 => exact HC0.out); rintro e w' ⟨rfl, ⟨nd, rfl⟩⟩; refine ⟨_, rfl, ?_⟩; (try (rw [drewN_self w18]; generalize hq_ : World.drewN w18 _ = w18; have n0_ : Aside0 (Kd.R k34 34 w18 w.heap.size (fun k_ => (True ∧ k_ ≠ gb180)) v182 y181) := ⟨by rw [← hq_]; exact (by (with_reducible repeat (first | apply Kd.R_alloc | apply Kd.R_drewN | apply Kd.R_drew)); exact HO183.out)⟩; have n1_ : Aside0 (w18.heap[gb180]? = some (.cells #[.float .f64 b_ft177, .float .f64 b_ft179] 34 (0, 0))) := ⟨by rw [← hq_]; exact (by (with_reducible repeat (first | refine blk_drewN ?_ _ | refine blk_drew ?_ | refine blk_alloc ?_ _)); exact BK180.out)⟩; have n2_ : Aside0 (Below w.heap.size w w18) := ⟨by rw [← hq_]; exact (by repeat (first | (with_reducible first | exact HB.out | apply below_alloc | apply pw_below_drewN | apply below_drew1) | exact HB.out))⟩; clear HO183 BK180 HB hq_; have HO183 := n0_; have BK180 := n1_; have HB := n2_; clear n0_ n1_ n2_)); obtain ⟨Ao20, co20, eo20⟩ := Kd.R_slice HO183.out; subst eo20; have p185 : 0 ≤ ((ji8) : Int) := of_decide_eq_true (by first | (with_reducible assumption) | assumption); have q185 : (ji8) < (y181.length : Int) := of_decide_eq_true (by first | (with_reducible assumption) | assumption); obtain ⟨ad185, b_fr185_0, b_fr185_1, e185, hx185_0, hx185_1, hF185_0, hF185_1⟩ := at_T34 (Kd.R_reads' HO183.out).2.2 (ji8) p185 q185; have hF_fr185_0 := hF185_0.trans Nfr185_0.out.symm; clear hF185_0; have hF_fr185_1 := hF185_1.trans Nfr185_1.out.symm; clear hF185_1; cases e185; replace p185 := eq_true p185; replace q185 := eq_true q185) | ((with_reducible refine gate_dst (N := 5) rfl ?_); (try (refine gate_guard (by rfl) ?_; dsimp only)); refine box_event ?hg (N := 5) ?hd (cs := #[.float .f64 0, .float .f64 0]) (t := 34) ?hr ?_; (case hd => rfl); (case hg => rfl); (case hr => first | (go_simp; done) | (go_simp; rfl)); intro gb186 hg w21 hbox hb; have n0_ := Aside0.mk (Kd.R_below (Kd.R_elderB (by exact HO183.out) gb186 (Nat.le_of_eq hg.symm)) hb); have n1_ := Aside0.mk (blk_below (g := gb180) (o := .cells #[.float .f64 b_ft177, .float .f64 b_ft179] 34 (0, 0)) (by exact BK180.out) hb); have n2_ := Aside0.mk (below_step (by exact HB.out) hb); have n3_ := Aside0.mk (hbox); have n4_ := Aside0.mk ((by rw [hg]; exact (below_size (by exact HB.out)) : w.heap.size ≤ gb186)); have n5_ := Aside0.mk ((n4_.out)); have n6_ := Aside0.mk ((by rw [hg]; exact Nat.ne_of_lt (blk_lt (g := gb180) (o := .cells #[.float .f64 b_ft177, .float .f64 b_ft179] 34 (0, 0)) (by exact BK180.out)) : gb180 ≠ gb186)); have n7_ := Aside0.mk ((n6_.out.symm)); clear HO183; clear BK180; clear HB; have HO183 := n0_; have BK180 := n1_; have HB := n2_; have BK186 := n3_; have GW186 := n4_; have GE186 := n5_; have NB180_186 := n6_; have NB186_180 := n7_; clear n0_ n1_ n2_ n3_ n4_ n5_ n6_ n7_; clear hb hbox hg; have hnb22 := NB186_180.out; have hnc22 := NB180_186.out; have hcz23_0 : w21.cell? ⟨gb186, 0, none⟩ = some (.float .f64 0) := (blk_cell BK186.out 0).trans rfl; have hcz23_1 : w21.cell? ⟨gb186, 1, none⟩ = some (.float .f64 0) := (blk_cell BK186.out 1).trans rfl; have hfz23_0 := blk_frozen BK186.out 0; have hfz23_1 := blk_frozen BK186.out 1))
     have n0_ : Aside0 (Kd.R k34 34 ((w21.setCell ⟨gb186, 0, none⟩ (.float .f64 b_fr185_0)).setCell ⟨gb186, 1, none⟩ (.float .f64 b_fr185_1)) w.heap.size (fun k_ => k_ ≠ gb180 ∧ k_ ≠ gb186) (.slice (some ad185) y181.length co20) y181) := ⟨by (with_reducible repeat (first | apply Kd.R_alloc | apply Kd.R_drewN | apply Kd.R_drew)); exact Kd.R_mono (Kd.R_far (p := ⟨gb186, 1, none⟩) (Kd.R_far (p := ⟨gb186, 0, none⟩) (Kd.R_mono HO183.out (fun k_ hk => (⟨hk, hk.2⟩ : _ ∧ k_ ≠ gb186))) (fun _ hk => hk.2) (.float .f64 b_fr185_0)) (fun _ hk => hk.2) (.float .f64 b_fr185_1)) (fun _ hk => ⟨hk.1.1.2, hk.1.2⟩)⟩
     have n1_ : Aside0 (((w21.setCell ⟨gb186, 0, none⟩ (.float .f64 b_fr185_0)).setCell ⟨gb186, 1, none⟩ (.float .f64 b_fr185_1)).heap[gb180]? = some (.cells #[.float .f64 b_ft177, .float .f64 b_ft179] 34 (0, 0))) := ⟨by (with_reducible repeat (first | refine blk_drewN ?_ _ | refine blk_drew ?_ | refine blk_alloc ?_ _)); refine blk_far ?_ NB180_186.out _; (with_reducible repeat (first | refine blk_drewN ?_ _ | refine blk_drew ?_ | refine blk_alloc ?_ _)); refine blk_far ?_ NB180_186.out _; (with_reducible repeat (first | refine blk_drewN ?_ _ | refine blk_drew ?_ | refine blk_alloc ?_ _)); exact BK180.out⟩
     have n2_ : Aside0 (((w21.setCell ⟨gb186, 0, none⟩ (.float .f64 b_fr185_0)).setCell ⟨gb186, 1, none⟩ (.float .f64 b_fr185_1)).heap[gb186]? = some (.cells #[.float .f64 b_fr185_0, .float .f64 b_fr185_1] 34 (0, 0))) := ⟨by (with_reducible repeat (first | refine blk_drewN ?_ _ | refine blk_drew ?_ | refine blk_alloc ?_ _)); refine blk_put (cs := #[.float .f64 b_fr185_0, .float .f64 0]) ?_ 1 _ rfl; (with_reducible repeat (first | refine blk_drewN ?_ _ | refine blk_drew ?_ | refine blk_alloc ?_ _)); refine blk_put (cs := #[.float .f64 0, .float .f64 0]) ?_ 0 _ rfl; (with_reducible repeat (first | refine blk_drewN ?_ _ | refine blk_drew ?_ | refine blk_alloc ?_ _)); exact BK186.out⟩
     have n3_ : Aside0 (Below w.heap.size w ((w21.setCell ⟨gb186, 0, none⟩ (.float .f64 b_fr185_0)).setCell ⟨gb186, 1, none⟩ (.float .f64 b_fr185_1))) := ⟨by repeat (first | (with_reducible first | exact HB.out | apply below_alloc | apply pw_below_drewN | apply below_drew1 | refine below_set ?_ GE186.out) | exact HB.out)⟩
     (try clear HO183)
     (try clear BK180)
     (try clear BK186)
     (try clear HB)
     generalize ((w21.setCell ⟨gb186, 0, none⟩ (.float .f64 b_fr185_0)).setCell ⟨gb186, 1, none⟩ (.float .f64 b_fr185_1)) = w24 at n0_ n1_ n2_ n3_ ⊢
     have HO183 := n0_
     have BK180 := n1_
     have BK186 := n2_
     have HB := n3_
     clear n0_ n1_ n2_ n3_
     have n0_ := Aside0.mk (Kd.R_drew HO183.out)
     have n1_ := Aside0.mk (blk_drew BK180.out)
     have n2_ := Aside0.mk (blk_drew BK186.out)
     have n3_ := Aside0.mk (below_drew1 HB.out)
     clear HO183
     clear BK180
     clear BK186
     clear HB
     have HO183 := n0_
     have BK180 := n1_
     have BK186 := n2_
     have HB := n3_
     clear n0_ n1_ n2_ n3_
     refine start_ (n := 11) (S := fun w' => True) (ds := []) #[false, false, false, false, false, false, false, false, false, false, false] (by kernel_rfl) rfl rfl trivial (fun hHeld => ?_); refine with_tabW laws_FnQuotient.tab6 laws_FnQuotient.bits6 (fun HT_ HW_ => ?_)
     generalize w24.drew = w25 at HO183 BK180 BK186 HB hHeld ⊢
     refine inv_at [0, 1, 2, 3, 4, 5, 6, 7, 8, 9, 10] (fun a0_ b a w' => ∃ (b_t187 : Nat) (b_t188 : Nat) (b_t189 : Nat) (b_t190 : Nat) (gb192 : Nat) (m2_ : Value) (m4_ : Value) (m5_ : Value) (m6_ : Value) (m8_ : Value), a = putSel a0_ b [(0, 43, .agg #[.float .f64 b_ft177, .float .f64 b_ft179]), (1, 44, .agg #[.float .f64 b_fr185_0, .float .f64 b_fr185_1]), (2, 45, m2_), (3, 46, .agg #[.float .f64 b_fr185_0, .float .f64 b_fr185_1]), (4, 47, m4_), (5, 42, m5_), (6, 48, m6_), (7, 49, .bool t191), (8, 6, m8_), (10, 7, .bool t191)] ∧ (b 8 = false → Kd.R k34 34 w' w.heap.size (fun k_ => k_ ≠ gb180 ∧ k_ ≠ gb186) (.slice (some ad185) y181.length co20) y181) ∧ (w'.heap[gb180]? = some (.cells #[.float .f64 b_ft177, .float .f64 b_ft179] 34 (0, 0))) ∧ (w'.heap[gb186]? = some (.cells #[.float .f64 b_fr185_0, .float .f64 b_fr185_1] 34 (0, 0))) ∧ (Below w.heap.size w w') ∧ (b 2 = true → cn .f64 b_t187 = t187) ∧ (b 2 = true → cn .f64 b_t188 = t188) ∧ (b 4 = true → cn .f64 b_t189 = t189) ∧ (b 4 = true → cn .f64 b_t190 = t190) ∧ (b 8 = true → Kd.R k34 34 w' w.heap.size (fun k_ => k_ ≠ gb180 ∧ k_ ≠ gb186 ∧ k_ ≠ gb192) (.slice (some ad185) y181.length co20) y181) ∧ (b 8 = true → b 9 = false → w'.heap[gb192]? = some (.cells #[.float .f64 0, .float .f64 0] 34 (0, 0))) ∧ (b 8 = true → w.heap.size ≤ gb192) ∧ (b 8 = true → w.heap.size ≤ gb192) ∧ (b 8 = true → gb180 ≠ gb192) ∧ (b 8 = true → gb192 ≠ gb180) ∧ (b 8 = true → gb186 ≠ gb192) ∧ (b 8 = true → gb192 ≠ gb186) ∧ (b 9 = true → w'.heap[gb192]? = some (.cells #[.float .f64 b_t189, .float .f64 b_t190] 34 (0, 0))) ∧ (b 2 = true → (m2_ : Value) = .agg #[.float .f64 b_t187, .float .f64 b_t188]) ∧ (b 4 = true → (m4_ : Value) = .tuple #[.agg #[.float .f64 b_t189, .float .f64 b_t190], .bool t191]) ∧ (b 5 = true → (m5_ : Value) = .tuple #[.agg #[.float .f64 b_t189, .float .f64 b_t190], .bool t191]) ∧ (b 6 = true → (m6_ : Value) = .agg #[.float .f64 b_t189, .float .f64 b_t190]) ∧ (b 8 = true → (m8_ : Value) = .pointer (some ⟨gb192, 0, none⟩))) HT_.out HW_.out (by kernel_rfl) (by kernel_rfl) ?_ ?_ ?_
     ·exact ⟨0, 0, 0, 0, 0, .bool false, .bool false, .bool false, .bool false, .bool false, by simp only [putSel, Bool.false_eq_true, if_false], fun _ => HO183.out, BK180.out, BK186.out, HB.out, fun h_ => absurd h_ (by decide), fun h_ => absurd h_ (by decide), fun h_ => absurd h_ (by decide), fun h_ => absurd h_ (by decide), fun h_ => absurd h_ (by decide), fun h_ => absurd h_ (by decide), fun h_ => absurd h_ (by decide), fun h_ => absurd h_ (by decide), fun h_ => absurd h_ (by decide), fun h_ => absurd h_ (by decide), fun h_ => absurd h_ (by decide), fun h_ => absurd h_ (by decide), fun h_ => absurd h_ (by decide), fun h_ => absurd h_ (by decide), fun h_ => absurd h_ (by decide), fun h_ => absurd h_ (by decide), fun h_ => absurd h_ (by decide), fun h_ => absurd h_ (by decide)⟩
     ·skip
      clear BK180 BK186 HB HO183
      refine steps_cons ?_ ?_
      ·rintro b a w' ⟨b_t187, b_t188, b_t189, b_t190, gb192, m2_, m4_, m5_, m6_, m8_, ha, Q_HO183, Q_BK180, Q_BK186, Q_HB, Q_HF_t187, Q_HF_t188, Q_HF_t189, Q_HF_t190, Q_HO183_e8, Q_BK192, Q_GW192, Q_GE192, Q_NB180_192, Q_NB192_180, Q_NB186_192, Q_NB192_186, Q_BK192_e9, Q_X2_, Q_X4_, Q_X5_, Q_X6_, Q_X8_⟩ hb_ hon hoff
       refine ⟨_, rfl, fun K hK => ?_⟩
       have e3 : a.tmps[3]? = some (.pointer (some ⟨gb180, 0, none⟩)) := by rw [ha]; exact (putSel_off rfl).trans rfl
       replace ha := Aside0.mk ha
       have BK180 := Aside0.mk Q_BK180
       have BK186 := Aside0.mk Q_BK186
       have HB := Aside0.mk Q_HB
       have hc0_ : w'.cell? ⟨gb180, 0, none⟩ = some (.float .f64 b_ft177) := (blk_cell BK180.out 0).trans rfl
       have hc1_ : w'.cell? ⟨gb180, 1, none⟩ = some (.float .f64 b_ft179) := (blk_cell BK180.out 1).trans rfl
       refine value_ (w1 := w') (v := .agg #[.float .f64 b_ft177, .float .f64 b_ft179]) (by rfl) rfl ?_ ?_
       ·go_simp
        (try simp only [i64_w])
        try rfl
       refine hK.out _ _ ⟨b_t187, b_t188, b_t189, b_t190, gb192, m2_, m4_, m5_, m6_, m8_, (by rw [ha.out]; exact putSel_upk 0 hb_ rfl rfl rfl), Q_HO183, Q_BK180, Q_BK186, Q_HB, fun h0_ => absurd ((hoff 2 (by kernel_rfl)).symm.trans h0_) (by decide), fun h0_ => absurd ((hoff 2 (by kernel_rfl)).symm.trans h0_) (by decide), fun h0_ => absurd ((hoff 4 (by kernel_rfl)).symm.trans h0_) (by decide), fun h0_ => absurd ((hoff 4 (by kernel_rfl)).symm.trans h0_) (by decide), Q_HO183_e8, Q_BK192, Q_GW192, Q_GE192, Q_NB180_192, Q_NB192_180, Q_NB186_192, Q_NB192_186, fun h0_ => absurd ((hoff 9 (by kernel_rfl)).symm.trans h0_) (by decide), fun h0_ => absurd ((hoff 2 (by kernel_rfl)).symm.trans h0_) (by decide), fun h0_ => absurd ((hoff 4 (by kernel_rfl)).symm.trans h0_) (by decide), fun h0_ => absurd ((hoff 5 (by kernel_rfl)).symm.trans h0_) (by decide), fun h0_ => absurd ((hoff 6 (by kernel_rfl)).symm.trans h0_) (by decide), Q_X8_⟩
      refine steps_cons ?_ ?_
      ·rintro b a w' ⟨b_t187, b_t188, b_t189, b_t190, gb192, m2_, m4_, m5_, m6_, m8_, ha, Q_HO183, Q_BK180, Q_BK186, Q_HB, Q_HF_t187, Q_HF_t188, Q_HF_t189, Q_HF_t190, Q_HO183_e8, Q_BK192, Q_GW192, Q_GE192, Q_NB180_192, Q_NB192_180, Q_NB186_192, Q_NB192_186, Q_BK192_e9, Q_X2_, Q_X4_, Q_X5_, Q_X6_, Q_X8_⟩ hb_ hon hoff
       refine ⟨_, rfl, fun K hK => ?_⟩
       have e5 : a.tmps[5]? = some (.pointer (some ⟨gb186, 0, none⟩)) := by rw [ha]; exact (putSel_off rfl).trans rfl
       replace ha := Aside0.mk ha
       have BK180 := Aside0.mk Q_BK180
       have BK186 := Aside0.mk Q_BK186
       have HB := Aside0.mk Q_HB
       have hc0_ : w'.cell? ⟨gb186, 0, none⟩ = some (.float .f64 b_fr185_0) := (blk_cell BK186.out 0).trans rfl
       have hc1_ : w'.cell? ⟨gb186, 1, none⟩ = some (.float .f64 b_fr185_1) := (blk_cell BK186.out 1).trans rfl
       refine value_ (w1 := w') (v := .agg #[.float .f64 b_fr185_0, .float .f64 b_fr185_1]) (by rfl) rfl ?_ ?_
       ·go_simp
        (try simp only [i64_w])
        try rfl
       refine hK.out _ _ ⟨b_t187, b_t188, b_t189, b_t190, gb192, m2_, m4_, m5_, m6_, m8_, (by rw [ha.out]; exact putSel_upk 1 hb_ rfl rfl rfl), Q_HO183, Q_BK180, Q_BK186, Q_HB, fun h0_ => absurd ((hoff 2 (by kernel_rfl)).symm.trans h0_) (by decide), fun h0_ => absurd ((hoff 2 (by kernel_rfl)).symm.trans h0_) (by decide), fun h0_ => absurd ((hoff 4 (by kernel_rfl)).symm.trans h0_) (by decide), fun h0_ => absurd ((hoff 4 (by kernel_rfl)).symm.trans h0_) (by decide), Q_HO183_e8, Q_BK192, Q_GW192, Q_GE192, Q_NB180_192, Q_NB192_180, Q_NB186_192, Q_NB192_186, fun h0_ => absurd ((hoff 9 (by kernel_rfl)).symm.trans h0_) (by decide), fun h0_ => absurd ((hoff 2 (by kernel_rfl)).symm.trans h0_) (by decide), fun h0_ => absurd ((hoff 4 (by kernel_rfl)).symm.trans h0_) (by decide), fun h0_ => absurd ((hoff 5 (by kernel_rfl)).symm.trans h0_) (by decide), fun h0_ => absurd ((hoff 6 (by kernel_rfl)).symm.trans h0_) (by decide), Q_X8_⟩
      refine steps_cons ?_ ?_
      ·rintro b a w' ⟨b_t187, b_t188, b_t189, b_t190, gb192, m2_, m4_, m5_, m6_, m8_, ha, Q_HO183, Q_BK180, Q_BK186, Q_HB, Q_HF_t187, Q_HF_t188, Q_HF_t189, Q_HF_t190, Q_HO183_e8, Q_BK192, Q_GW192, Q_GE192, Q_NB180_192, Q_NB192_180, Q_NB186_192, Q_NB192_186, Q_BK192_e9, Q_X2_, Q_X4_, Q_X5_, Q_X6_, Q_X8_⟩ hb_ hon hoff
       refine ⟨_, rfl, fun K hK => ?_⟩
       have e43 : a.tmps[43]? = some (.agg #[.float .f64 b_ft177, .float .f64 b_ft179]) := by rw [ha]; exact putSel_on (e := (0, 43, .agg #[.float .f64 b_ft177, .float .f64 b_ft179])) 0 rfl rfl (hon 0 (by kernel_rfl)) rfl
       have e44 : a.tmps[44]? = some (.agg #[.float .f64 b_fr185_0, .float .f64 b_fr185_1]) := by rw [ha]; exact putSel_on (e := (1, 44, .agg #[.float .f64 b_fr185_0, .float .f64 b_fr185_1])) 1 rfl rfl (hon 1 (by kernel_rfl)) rfl
       replace ha := Aside0.mk ha
       have BK180 := Aside0.mk Q_BK180
       have BK186 := Aside0.mk Q_BK186
       have HB := Aside0.mk Q_HB
       refine goes_ Try.func51 (by kernel_rfl) rfl #[.agg #[.float .f64 b_ft177, .float .f64 b_ft179], .agg #[.float .f64 b_fr185_0, .float .f64 b_fr185_1]] (by rfl) rfl rfl (by first | (simp only [List.map_toArray, List.map_cons, List.map_nil, Act.eval, Array.getD_eq_getD_getElem?, Option.getD_some, e43, e44]; done) | (simp only [List.map_toArray, List.map_cons, List.map_nil, Act.eval, Array.getD_eq_getD_getElem?, Option.getD_some, e43, e44]; rfl)) ?_
       with_reducible refine (impl_CxTimes.calls b_ft177 ft177 b_ft179 ft179 b_fr185_0 fr185_0 b_fr185_1 fr185_1 t187 t188 _ ?side1 ?side2 ?side3 ?side4 A11.out).mono ?_
       (case side1 => exact hF_ft177)
       (case side2 => exact hF_ft179)
       (case side3 => exact hF_fr185_0)
       (case side4 => exact hF_fr185_1)
       rintro e w26 ⟨b_t187, b_t188, rfl, hF_t187, hF_t188, hb⟩
       refine ⟨_, rfl, ?_⟩
       have n1_ := Aside0.mk (blk_below (g := gb180) (o := .cells #[.float .f64 b_ft177, .float .f64 b_ft179] 34 (0, 0)) (by (with_reducible repeat (first | refine blk_drewN ?_ _ | refine blk_drew ?_ | refine blk_alloc ?_ _)); exact BK180.out) hb)
       have n2_ := Aside0.mk (blk_below (g := gb186) (o := .cells #[.float .f64 b_fr185_0, .float .f64 b_fr185_1] 34 (0, 0)) (by (with_reducible repeat (first | refine blk_drewN ?_ _ | refine blk_drew ?_ | refine blk_alloc ?_ _)); exact BK186.out) hb)
       have n3_ := Aside0.mk (below_step (by repeat (first | (with_reducible first | exact HB.out | apply below_alloc | apply pw_below_drewN | apply below_drew1) | exact HB.out)) hb)
       have z_HO183 := fun (h0_ : b 8 = false) => (show Kd.R k34 34 w26 w.heap.size (fun k_ => k_ ≠ gb180 ∧ k_ ≠ gb186) (.slice (some ad185) y181.length co20) y181 from by first | exact (Kd.R_below (by (with_reducible repeat (first | apply Kd.R_alloc | apply Kd.R_drewN | apply Kd.R_drew)); exact (Q_HO183 h0_)) hb) | exact Kd.R_mono (Kd.R_below (by (with_reducible repeat (first | apply Kd.R_alloc | apply Kd.R_drewN | apply Kd.R_drew)); exact (Q_HO183 h0_)) hb) (fun _ h_ => by first | trivial | exact h_ | exact h_.1))
       have z_HO183_e8 := fun (h0_ : b 8 = true) => (show Kd.R k34 34 w26 w.heap.size (fun k_ => k_ ≠ gb180 ∧ k_ ≠ gb186 ∧ k_ ≠ gb192) (.slice (some ad185) y181.length co20) y181 from by first | exact (Kd.R_below (by (with_reducible repeat (first | apply Kd.R_alloc | apply Kd.R_drewN | apply Kd.R_drew)); exact (Q_HO183_e8 h0_)) hb) | exact Kd.R_mono (Kd.R_below (by (with_reducible repeat (first | apply Kd.R_alloc | apply Kd.R_drewN | apply Kd.R_drew)); exact (Q_HO183_e8 h0_)) hb) (fun _ h_ => by first | trivial | exact h_ | exact h_.1))
       have z_BK192 := fun (h0_ : b 8 = true) (h1_ : b 9 = false) => (show w26.heap[gb192]? = some (.cells #[.float .f64 0, .float .f64 0] 34 (0, 0)) from by first | exact (blk_below (g := gb192) (o := .cells #[.float .f64 0, .float .f64 0] 34 (0, 0)) (by (with_reducible repeat (first | refine blk_drewN ?_ _ | refine blk_drew ?_ | refine blk_alloc ?_ _)); exact (Q_BK192 h0_ h1_)) hb))
       clear BK180
       clear BK186
       clear HB
       have BK180 := n1_
       have BK186 := n2_
       have HB := n3_
       clear n1_ n2_ n3_
       (try clear hb)
       (try clear hb2)
       (try clear hk)
       (try clear hi)
       refine hK.out _ _ ⟨b_t187, b_t188, b_t189, b_t190, gb192, (.agg #[.float .f64 b_t187, .float .f64 b_t188]), m4_, m5_, m6_, m8_, (by rw [ha.out]; exact putSel_upk 2 hb_ rfl rfl rfl), z_HO183, (by (with_reducible repeat (first | refine blk_drewN ?_ _ | refine blk_drew ?_ | refine blk_alloc ?_ _)); exact BK180.out), (by (with_reducible repeat (first | refine blk_drewN ?_ _ | refine blk_drew ?_ | refine blk_alloc ?_ _)); exact BK186.out), (by repeat (first | (with_reducible first | exact HB.out | apply below_alloc | apply pw_below_drewN | apply below_drew1) | exact HB.out)), fun _ => hF_t187, fun _ => hF_t188, fun h0_ => absurd ((hoff 4 (by kernel_rfl)).symm.trans h0_) (by decide), fun h0_ => absurd ((hoff 4 (by kernel_rfl)).symm.trans h0_) (by decide), z_HO183_e8, z_BK192, Q_GW192, Q_GE192, Q_NB180_192, Q_NB192_180, Q_NB186_192, Q_NB192_186, fun h0_ => absurd ((hoff 9 (by kernel_rfl)).symm.trans h0_) (by decide), fun _ => rfl, fun h0_ => absurd ((hoff 4 (by kernel_rfl)).symm.trans h0_) (by decide), fun h0_ => absurd ((hoff 5 (by kernel_rfl)).symm.trans h0_) (by decide), fun h0_ => absurd ((hoff 6 (by kernel_rfl)).symm.trans h0_) (by decide), Q_X8_⟩
      refine steps_cons ?_ ?_
      ·rintro b a w' ⟨b_t187, b_t188, b_t189, b_t190, gb192, m2_, m4_, m5_, m6_, m8_, ha, Q_HO183, Q_BK180, Q_BK186, Q_HB, Q_HF_t187, Q_HF_t188, Q_HF_t189, Q_HF_t190, Q_HO183_e8, Q_BK192, Q_GW192, Q_GE192, Q_NB180_192, Q_NB192_180, Q_NB186_192, Q_NB192_186, Q_BK192_e9, Q_X2_, Q_X4_, Q_X5_, Q_X6_, Q_X8_⟩ hb_ hon hoff
       refine ⟨_, rfl, fun K hK => ?_⟩
       have e5 : a.tmps[5]? = some (.pointer (some ⟨gb186, 0, none⟩)) := by rw [ha]; exact (putSel_off rfl).trans rfl
       replace ha := Aside0.mk ha
       have BK180 := Aside0.mk Q_BK180
       have BK186 := Aside0.mk Q_BK186
       have HB := Aside0.mk Q_HB
       have hc0_ : w'.cell? ⟨gb186, 0, none⟩ = some (.float .f64 b_fr185_0) := (blk_cell BK186.out 0).trans rfl
       have hc1_ : w'.cell? ⟨gb186, 1, none⟩ = some (.float .f64 b_fr185_1) := (blk_cell BK186.out 1).trans rfl
       refine value_ (w1 := w') (v := .agg #[.float .f64 b_fr185_0, .float .f64 b_fr185_1]) (by rfl) rfl ?_ ?_
       ·go_simp
        (try simp only [i64_w])
        try rfl
       refine hK.out _ _ ⟨b_t187, b_t188, b_t189, b_t190, gb192, m2_, m4_, m5_, m6_, m8_, (by rw [ha.out]; exact putSel_upk 3 hb_ rfl rfl rfl), Q_HO183, Q_BK180, Q_BK186, Q_HB, Q_HF_t187, Q_HF_t188, fun h0_ => absurd ((hoff 4 (by kernel_rfl)).symm.trans h0_) (by decide), fun h0_ => absurd ((hoff 4 (by kernel_rfl)).symm.trans h0_) (by decide), Q_HO183_e8, Q_BK192, Q_GW192, Q_GE192, Q_NB180_192, Q_NB192_180, Q_NB186_192, Q_NB192_186, fun h0_ => absurd ((hoff 9 (by kernel_rfl)).symm.trans h0_) (by decide), Q_X2_, fun h0_ => absurd ((hoff 4 (by kernel_rfl)).symm.trans h0_) (by decide), fun h0_ => absurd ((hoff 5 (by kernel_rfl)).symm.trans h0_) (by decide), fun h0_ => absurd ((hoff 6 (by kernel_rfl)).symm.trans h0_) (by decide), Q_X8_⟩
      refine steps_cons ?_ ?_
      ·rintro b a w' ⟨b_t187, b_t188, b_t189, b_t190, gb192, m2_, m4_, m5_, m6_, m8_, ha, Q_HO183, Q_BK180, Q_BK186, Q_HB, Q_HF_t187, Q_HF_t188, Q_HF_t189, Q_HF_t190, Q_HO183_e8, Q_BK192, Q_GW192, Q_GE192, Q_NB180_192, Q_NB192_180, Q_NB186_192, Q_NB192_186, Q_BK192_e9, Q_X2_, Q_X4_, Q_X5_, Q_X6_, Q_X8_⟩ hb_ hon hoff
       refine ⟨_, rfl, fun K hK => ?_⟩
       have e45 : a.tmps[45]? = some (m2_) := by rw [ha]; exact putSel_on (e := (2, 45, m2_)) 2 rfl rfl (hon 2 (by kernel_rfl)) rfl
       rw [Q_X2_ (hon 2 (by kernel_rfl))] at e45
       have e46 : a.tmps[46]? = some (.agg #[.float .f64 b_fr185_0, .float .f64 b_fr185_1]) := by rw [ha]; exact putSel_on (e := (3, 46, .agg #[.float .f64 b_fr185_0, .float .f64 b_fr185_1])) 3 rfl rfl (hon 3 (by kernel_rfl)) rfl
       replace ha := Aside0.mk ha
       have BK180 := Aside0.mk Q_BK180
       have BK186 := Aside0.mk Q_BK186
       have HB := Aside0.mk Q_HB
       have HF_t187 := Aside0.mk (Q_HF_t187 (hon 2 (by kernel_rfl)))
       have HF_t188 := Aside0.mk (Q_HF_t188 (hon 2 (by kernel_rfl)))
       have hF_t187 := HF_t187.out
       have hF_t188 := HF_t188.out
       refine goes_ Try.func50 (by kernel_rfl) rfl #[.agg #[.float .f64 b_t187, .float .f64 b_t188], .agg #[.float .f64 b_fr185_0, .float .f64 b_fr185_1]] (by rfl) rfl rfl (by first | (simp only [List.map_toArray, List.map_cons, List.map_nil, Act.eval, Array.getD_eq_getD_getElem?, Option.getD_some, e45, e46]; done) | (simp only [List.map_toArray, List.map_cons, List.map_nil, Act.eval, Array.getD_eq_getD_getElem?, Option.getD_some, e45, e46]; rfl)) ?_
       with_reducible refine (impl_CxOver.calls k b_t187 t187 b_t188 t188 b_fr185_0 fr185_0 b_fr185_1 fr185_1 t189 t190 t191 _ ?side1 ?side2 ?side3 ?side4 A12.out).mono ?_
       (case side1 => exact hF_t187)
       (case side2 => exact hF_t188)
       (case side3 => exact hF_fr185_0)
       (case side4 => exact hF_fr185_1)
       rintro e w28 ⟨b_t189, b_t190, rfl, hF_t189, hF_t190, hb⟩
       refine ⟨_, rfl, ?_⟩
       have n1_ := Aside0.mk (blk_below (g := gb180) (o := .cells #[.float .f64 b_ft177, .float .f64 b_ft179] 34 (0, 0)) (by (with_reducible repeat (first | refine blk_drewN ?_ _ | refine blk_drew ?_ | refine blk_alloc ?_ _)); exact BK180.out) hb)
       have n2_ := Aside0.mk (blk_below (g := gb186) (o := .cells #[.float .f64 b_fr185_0, .float .f64 b_fr185_1] 34 (0, 0)) (by (with_reducible repeat (first | refine blk_drewN ?_ _ | refine blk_drew ?_ | refine blk_alloc ?_ _)); exact BK186.out) hb)
       have n3_ := Aside0.mk (below_step (by repeat (first | (with_reducible first | exact HB.out | apply below_alloc | apply pw_below_drewN | apply below_drew1) | exact HB.out)) hb)
       have z_HO183 := fun (h0_ : b 8 = false) => (show Kd.R k34 34 w28 w.heap.size (fun k_ => k_ ≠ gb180 ∧ k_ ≠ gb186) (.slice (some ad185) y181.length co20) y181 from by first | exact (Kd.R_below (by (with_reducible repeat (first | apply Kd.R_alloc | apply Kd.R_drewN | apply Kd.R_drew)); exact (Q_HO183 h0_)) hb) | exact Kd.R_mono (Kd.R_below (by (with_reducible repeat (first | apply Kd.R_alloc | apply Kd.R_drewN | apply Kd.R_drew)); exact (Q_HO183 h0_)) hb) (fun _ h_ => by first | trivial | exact h_ | exact h_.1))
       have z_HO183_e8 := fun (h0_ : b 8 = true) => (show Kd.R k34 34 w28 w.heap.size (fun k_ => k_ ≠ gb180 ∧ k_ ≠ gb186 ∧ k_ ≠ gb192) (.slice (some ad185) y181.length co20) y181 from by first | exact (Kd.R_below (by (with_reducible repeat (first | apply Kd.R_alloc | apply Kd.R_drewN | apply Kd.R_drew)); exact (Q_HO183_e8 h0_)) hb) | exact Kd.R_mono (Kd.R_below (by (with_reducible repeat (first | apply Kd.R_alloc | apply Kd.R_drewN | apply Kd.R_drew)); exact (Q_HO183_e8 h0_)) hb) (fun _ h_ => by first | trivial | exact h_ | exact h_.1))
       have z_BK192 := fun (h0_ : b 8 = true) (h1_ : b 9 = false) => (show w28.heap[gb192]? = some (.cells #[.float .f64 0, .float .f64 0] 34 (0, 0)) from by first | exact (blk_below (g := gb192) (o := .cells #[.float .f64 0, .float .f64 0] 34 (0, 0)) (by (with_reducible repeat (first | refine blk_drewN ?_ _ | refine blk_drew ?_ | refine blk_alloc ?_ _)); exact (Q_BK192 h0_ h1_)) hb))
       clear BK180
       clear BK186
       clear HB
       have BK180 := n1_
       have BK186 := n2_
       have HB := n3_
       clear n1_ n2_ n3_
       (try clear hb)
       (try clear hb2)
       (try clear hk)
       (try clear hi)
       refine hK.out _ _ ⟨b_t187, b_t188, b_t189, b_t190, gb192, m2_, (.tuple #[.agg #[.float .f64 b_t189, .float .f64 b_t190], .bool t191]), m5_, m6_, m8_, (by rw [ha.out]; exact putSel_upk 4 hb_ rfl rfl rfl), z_HO183, (by (with_reducible repeat (first | refine blk_drewN ?_ _ | refine blk_drew ?_ | refine blk_alloc ?_ _)); exact BK180.out), (by (with_reducible repeat (first | refine blk_drewN ?_ _ | refine blk_drew ?_ | refine blk_alloc ?_ _)); exact BK186.out), (by repeat (first | (with_reducible first | exact HB.out | apply below_alloc | apply pw_below_drewN | apply below_drew1) | exact HB.out)), fun _ => hF_t187, fun _ => hF_t188, fun _ => hF_t189, fun _ => hF_t190, z_HO183_e8, z_BK192, Q_GW192, Q_GE192, Q_NB180_192, Q_NB192_180, Q_NB186_192, Q_NB192_186, fun h0_ => absurd ((hoff 9 (by kernel_rfl)).symm.trans h0_) (by decide), Q_X2_, fun _ => rfl, fun h0_ => absurd ((hoff 5 (by kernel_rfl)).symm.trans h0_) (by decide), fun h0_ => absurd ((hoff 6 (by kernel_rfl)).symm.trans h0_) (by decide), Q_X8_⟩
      refine steps_cons ?_ ?_
      ·rintro b a w' ⟨b_t187, b_t188, b_t189, b_t190, gb192, m2_, m4_, m5_, m6_, m8_, ha, Q_HO183, Q_BK180, Q_BK186, Q_HB, Q_HF_t187, Q_HF_t188, Q_HF_t189, Q_HF_t190, Q_HO183_e8, Q_BK192, Q_GW192, Q_GE192, Q_NB180_192, Q_NB192_180, Q_NB186_192, Q_NB192_186, Q_BK192_e9, Q_X2_, Q_X4_, Q_X5_, Q_X6_, Q_X8_⟩ hb_ hon hoff
       refine ⟨_, rfl, fun K hK => ?_⟩
       have e47 : a.tmps[47]? = some (m4_) := by rw [ha]; exact putSel_on (e := (4, 47, m4_)) 4 rfl rfl (hon 4 (by kernel_rfl)) rfl
       rw [Q_X4_ (hon 4 (by kernel_rfl))] at e47
       replace ha := Aside0.mk ha
       have BK180 := Aside0.mk Q_BK180
       have BK186 := Aside0.mk Q_BK186
       have HB := Aside0.mk Q_HB
       have HF_t187 := Aside0.mk (Q_HF_t187 (hon 2 (by kernel_rfl)))
       have HF_t188 := Aside0.mk (Q_HF_t188 (hon 2 (by kernel_rfl)))
       have HF_t189 := Aside0.mk (Q_HF_t189 (hon 4 (by kernel_rfl)))
       have HF_t190 := Aside0.mk (Q_HF_t190 (hon 4 (by kernel_rfl)))
       refine value_ (w1 := w') (v := .tuple #[.agg #[.float .f64 b_t189, .float .f64 b_t190], .bool t191]) (by rfl) rfl ?_ ?_
       ·go_simp
        (try simp only [i64_w])
        try rfl
       refine hK.out _ _ ⟨b_t187, b_t188, b_t189, b_t190, gb192, m2_, m4_, (.tuple #[.agg #[.float .f64 b_t189, .float .f64 b_t190], .bool t191]), m6_, m8_, (by rw [ha.out]; exact putSel_upk 5 hb_ rfl rfl rfl), Q_HO183, Q_BK180, Q_BK186, Q_HB, Q_HF_t187, Q_HF_t188, Q_HF_t189, Q_HF_t190, Q_HO183_e8, Q_BK192, Q_GW192, Q_GE192, Q_NB180_192, Q_NB192_180, Q_NB186_192, Q_NB192_186, fun h0_ => absurd ((hoff 9 (by kernel_rfl)).symm.trans h0_) (by decide), Q_X2_, Q_X4_, fun _ => rfl, fun h0_ => absurd ((hoff 6 (by kernel_rfl)).symm.trans h0_) (by decide), Q_X8_⟩
      refine steps_cons ?_ ?_
      ·rintro b a w' ⟨b_t187, b_t188, b_t189, b_t190, gb192, m2_, m4_, m5_, m6_, m8_, ha, Q_HO183, Q_BK180, Q_BK186, Q_HB, Q_HF_t187, Q_HF_t188, Q_HF_t189, Q_HF_t190, Q_HO183_e8, Q_BK192, Q_GW192, Q_GE192, Q_NB180_192, Q_NB192_180, Q_NB186_192, Q_NB192_186, Q_BK192_e9, Q_X2_, Q_X4_, Q_X5_, Q_X6_, Q_X8_⟩ hb_ hon hoff
       refine ⟨_, rfl, fun K hK => ?_⟩
       have e42 : a.tmps[42]? = some (m5_) := by rw [ha]; exact putSel_on (e := (5, 42, m5_)) 5 rfl rfl (hon 5 (by kernel_rfl)) rfl
       rw [Q_X5_ (hon 5 (by kernel_rfl))] at e42
       replace ha := Aside0.mk ha
       have BK180 := Aside0.mk Q_BK180
       have BK186 := Aside0.mk Q_BK186
       have HB := Aside0.mk Q_HB
       have HF_t187 := Aside0.mk (Q_HF_t187 (hon 2 (by kernel_rfl)))
       have HF_t188 := Aside0.mk (Q_HF_t188 (hon 2 (by kernel_rfl)))
       have HF_t189 := Aside0.mk (Q_HF_t189 (hon 4 (by kernel_rfl)))
       have HF_t190 := Aside0.mk (Q_HF_t190 (hon 4 (by kernel_rfl)))
       refine value_ (w1 := w') (v := .agg #[.float .f64 b_t189, .float .f64 b_t190]) (by rfl) rfl ?_ ?_
       ·go_simp
        (try simp only [i64_w])
        try rfl
       refine hK.out _ _ ⟨b_t187, b_t188, b_t189, b_t190, gb192, m2_, m4_, m5_, (.agg #[.float .f64 b_t189, .float .f64 b_t190]), m8_, (by rw [ha.out]; exact putSel_upk 6 hb_ rfl rfl rfl), Q_HO183, Q_BK180, Q_BK186, Q_HB, Q_HF_t187, Q_HF_t188, Q_HF_t189, Q_HF_t190, Q_HO183_e8, Q_BK192, Q_GW192, Q_GE192, Q_NB180_192, Q_NB192_180, Q_NB186_192, Q_NB192_186, fun h0_ => absurd ((hoff 9 (by kernel_rfl)).symm.trans h0_) (by decide), Q_X2_, Q_X4_, Q_X5_, fun _ => rfl, Q_X8_⟩
      refine steps_cons ?_ ?_
      ·rintro b a w' ⟨b_t187, b_t188, b_t189, b_t190, gb192, m2_, m4_, m5_, m6_, m8_, ha, Q_HO183, Q_BK180, Q_BK186, Q_HB, Q_HF_t187, Q_HF_t188, Q_HF_t189, Q_HF_t190, Q_HO183_e8, Q_BK192, Q_GW192, Q_GE192, Q_NB180_192, Q_NB192_180, Q_NB186_192, Q_NB192_186, Q_BK192_e9, Q_X2_, Q_X4_, Q_X5_, Q_X6_, Q_X8_⟩ hb_ hon hoff
       refine ⟨_, rfl, fun K hK => ?_⟩
       have e42 : a.tmps[42]? = some (m5_) := by rw [ha]; exact putSel_on (e := (5, 42, m5_)) 5 rfl rfl (hon 5 (by kernel_rfl)) rfl
       rw [Q_X5_ (hon 5 (by kernel_rfl))] at e42
       replace ha := Aside0.mk ha
       have BK180 := Aside0.mk Q_BK180
       have BK186 := Aside0.mk Q_BK186
       have HB := Aside0.mk Q_HB
       have HF_t187 := Aside0.mk (Q_HF_t187 (hon 2 (by kernel_rfl)))
       have HF_t188 := Aside0.mk (Q_HF_t188 (hon 2 (by kernel_rfl)))
       have HF_t189 := Aside0.mk (Q_HF_t189 (hon 4 (by kernel_rfl)))
       have HF_t190 := Aside0.mk (Q_HF_t190 (hon 4 (by kernel_rfl)))
       refine value_ (w1 := w') (v := .bool t191) (by rfl) rfl ?_ ?_
       ·go_simp
        (try simp only [i64_w])
        try rfl
       refine hK.out _ _ ⟨b_t187, b_t188, b_t189, b_t190, gb192, m2_, m4_, m5_, m6_, m8_, (by rw [ha.out]; exact putSel_upk 7 hb_ rfl rfl rfl), Q_HO183, Q_BK180, Q_BK186, Q_HB, Q_HF_t187, Q_HF_t188, Q_HF_t189, Q_HF_t190, Q_HO183_e8, Q_BK192, Q_GW192, Q_GE192, Q_NB180_192, Q_NB192_180, Q_NB186_192, Q_NB192_186, Q_BK192_e9, Q_X2_, Q_X4_, Q_X5_, Q_X6_, Q_X8_⟩
      refine steps_cons ?_ ?_
      ·rintro b a w' ⟨b_t187, b_t188, b_t189, b_t190, gb192, m2_, m4_, m5_, m6_, m8_, ha, Q_HO183, Q_BK180, Q_BK186, Q_HB, Q_HF_t187, Q_HF_t188, Q_HF_t189, Q_HF_t190, Q_HO183_e8, Q_BK192, Q_GW192, Q_GE192, Q_NB180_192, Q_NB192_180, Q_NB186_192, Q_NB192_186, Q_BK192_e9, Q_X2_, Q_X4_, Q_X5_, Q_X6_, Q_X8_⟩ hb_ hon hoff
       refine ⟨_, rfl, fun K hK => ?_⟩
       replace ha := Aside0.mk ha
       have HO183 := Aside0.mk (Q_HO183 hb_)
       have BK180 := Aside0.mk Q_BK180
       have BK186 := Aside0.mk Q_BK186
       have HB := Aside0.mk Q_HB
       refine box_step ?hg (N := 6) ?hd (cs := #[.float .f64 0, .float .f64 0]) (t := 34) ?hr ?_; (case hd => rfl); (case hg => rfl); (case hr => first | (go_simp; done) | (go_simp; rfl))
       intro gb192 hg w26 hbox hb
       have n0_ := Aside0.mk (Kd.R_below (Kd.R_elderB (by (with_reducible repeat (first | apply Kd.R_alloc | apply Kd.R_drewN | apply Kd.R_drew)); exact HO183.out) gb192 (Nat.le_of_eq hg.symm)) hb)
       have n1_ := Aside0.mk (blk_below (g := gb180) (o := .cells #[.float .f64 b_ft177, .float .f64 b_ft179] 34 (0, 0)) (by (with_reducible repeat (first | refine blk_drewN ?_ _ | refine blk_drew ?_ | refine blk_alloc ?_ _)); exact BK180.out) hb)
       have n2_ := Aside0.mk (blk_below (g := gb186) (o := .cells #[.float .f64 b_fr185_0, .float .f64 b_fr185_1] 34 (0, 0)) (by (with_reducible repeat (first | refine blk_drewN ?_ _ | refine blk_drew ?_ | refine blk_alloc ?_ _)); exact BK186.out) hb)
       have n3_ := Aside0.mk (below_step (by repeat (first | (with_reducible first | exact HB.out | apply below_alloc | apply pw_below_drewN | apply below_drew1) | exact HB.out)) hb)
       have n4_ := Aside0.mk (hbox)
       have n5_ := Aside0.mk ((by rw [hg]; exact (below_size (by repeat (first | (with_reducible first | exact HB.out | apply below_alloc | apply pw_below_drewN | apply below_drew1) | exact HB.out))) : w.heap.size ≤ gb192))
       have n6_ := Aside0.mk ((by rw [hg]; exact (below_size (by repeat (first | (with_reducible first | exact HB.out | apply below_alloc | apply pw_below_drewN | apply below_drew1) | exact HB.out))) : w.heap.size ≤ gb192))
       have n7_ := Aside0.mk ((by rw [hg]; exact Nat.ne_of_lt (blk_lt (g := gb180) (o := .cells #[.float .f64 b_ft177, .float .f64 b_ft179] 34 (0, 0)) (by (with_reducible repeat (first | refine blk_drewN ?_ _ | refine blk_drew ?_ | refine blk_alloc ?_ _)); exact BK180.out)) : gb180 ≠ gb192))
       have n8_ := Aside0.mk ((by rw [hg]; exact Nat.ne_of_gt (blk_lt (g := gb180) (o := .cells #[.float .f64 b_ft177, .float .f64 b_ft179] 34 (0, 0)) (by (with_reducible repeat (first | refine blk_drewN ?_ _ | refine blk_drew ?_ | refine blk_alloc ?_ _)); exact BK180.out)) : gb192 ≠ gb180))
       have n9_ := Aside0.mk ((by rw [hg]; exact Nat.ne_of_lt (blk_lt (g := gb186) (o := .cells #[.float .f64 b_fr185_0, .float .f64 b_fr185_1] 34 (0, 0)) (by (with_reducible repeat (first | refine blk_drewN ?_ _ | refine blk_drew ?_ | refine blk_alloc ?_ _)); exact BK186.out)) : gb186 ≠ gb192))
       have n10_ := Aside0.mk ((by rw [hg]; exact Nat.ne_of_gt (blk_lt (g := gb186) (o := .cells #[.float .f64 b_fr185_0, .float .f64 b_fr185_1] 34 (0, 0)) (by (with_reducible repeat (first | refine blk_drewN ?_ _ | refine blk_drew ?_ | refine blk_alloc ?_ _)); exact BK186.out)) : gb192 ≠ gb186))
       clear HO183
       clear BK180
       clear BK186
       clear HB
       have HO183 := n0_
       have BK180 := n1_
       have BK186 := n2_
       have HB := n3_
       have BK192 := n4_
       have GW192 := n5_
       have GE192 := n6_
       have NB180_192 := n7_
       have NB192_180 := n8_
       have NB186_192 := n9_
       have NB192_186 := n10_
       clear n0_ n1_ n2_ n3_ n4_ n5_ n6_ n7_ n8_ n9_ n10_
       clear hb hbox hg
       refine hK.out _ _ ⟨b_t187, b_t188, b_t189, b_t190, gb192, m2_, m4_, m5_, m6_, (.pointer (some ⟨gb192, 0, none⟩)), (by rw [ha.out]; exact putSel_upk 8 hb_ rfl rfl rfl), fun h0_ => absurd ((up_self b 8).symm.trans h0_) (by decide), (by (with_reducible repeat (first | refine blk_drewN ?_ _ | refine blk_drew ?_ | refine blk_alloc ?_ _)); exact BK180.out), (by (with_reducible repeat (first | refine blk_drewN ?_ _ | refine blk_drew ?_ | refine blk_alloc ?_ _)); exact BK186.out), (by repeat (first | (with_reducible first | exact HB.out | apply below_alloc | apply pw_below_drewN | apply below_drew1) | exact HB.out)), Q_HF_t187, Q_HF_t188, Q_HF_t189, Q_HF_t190, fun _ => (by (with_reducible repeat (first | apply Kd.R_alloc | apply Kd.R_drewN | apply Kd.R_drew)); exact Kd.R_mono HO183.out (fun _ hk => ⟨hk.1.1, ⟨hk.1.2, hk.2⟩⟩)), fun _ _ => (by (with_reducible repeat (first | refine blk_drewN ?_ _ | refine blk_drew ?_ | refine blk_alloc ?_ _)); exact BK192.out), fun _ => GW192.out, fun _ => GE192.out, fun _ => NB180_192.out, fun _ => NB192_180.out, fun _ => NB186_192.out, fun _ => NB192_186.out, fun h0_ => absurd ((hoff 9 (by kernel_rfl)).symm.trans h0_) (by decide), Q_X2_, Q_X4_, Q_X5_, Q_X6_, fun _ => rfl⟩
      refine steps_cons ?_ ?_
      ·rintro b a w' ⟨b_t187, b_t188, b_t189, b_t190, gb192, m2_, m4_, m5_, m6_, m8_, ha, Q_HO183, Q_BK180, Q_BK186, Q_HB, Q_HF_t187, Q_HF_t188, Q_HF_t189, Q_HF_t190, Q_HO183_e8, Q_BK192, Q_GW192, Q_GE192, Q_NB180_192, Q_NB192_180, Q_NB186_192, Q_NB192_186, Q_BK192_e9, Q_X2_, Q_X4_, Q_X5_, Q_X6_, Q_X8_⟩ hb_ hon hoff
       refine ⟨_, rfl, fun K hK => ?_⟩
       have e6 : a.tmps[6]? = some (m8_) := by rw [ha]; exact putSel_on (e := (8, 6, m8_)) 8 rfl rfl (hon 8 (by kernel_rfl)) rfl
       rw [Q_X8_ (hon 8 (by kernel_rfl))] at e6
       have e48 : a.tmps[48]? = some (m6_) := by rw [ha]; exact putSel_on (e := (6, 48, m6_)) 6 rfl rfl (hon 6 (by kernel_rfl)) rfl
       rw [Q_X6_ (hon 6 (by kernel_rfl))] at e48
       replace ha := Aside0.mk ha
       have BK180 := Aside0.mk Q_BK180
       have BK186 := Aside0.mk Q_BK186
       have HB := Aside0.mk Q_HB
       have HF_t187 := Aside0.mk (Q_HF_t187 (hon 2 (by kernel_rfl)))
       have HF_t188 := Aside0.mk (Q_HF_t188 (hon 2 (by kernel_rfl)))
       have HF_t189 := Aside0.mk (Q_HF_t189 (hon 4 (by kernel_rfl)))
       have HF_t190 := Aside0.mk (Q_HF_t190 (hon 4 (by kernel_rfl)))
       have HO183 := Aside0.mk (Q_HO183_e8 (hon 8 (by kernel_rfl)))
       have BK192 := Aside0.mk (Q_BK192 (hon 8 (by kernel_rfl)) hb_)
       have GW192 := Aside0.mk (Q_GW192 (hon 8 (by kernel_rfl)))
       have GE192 := Aside0.mk (Q_GE192 (hon 8 (by kernel_rfl)))
       have NB180_192 := Aside0.mk (Q_NB180_192 (hon 8 (by kernel_rfl)))
       have NB192_180 := Aside0.mk (Q_NB192_180 (hon 8 (by kernel_rfl)))
       have NB186_192 := Aside0.mk (Q_NB186_192 (hon 8 (by kernel_rfl)))
       have NB192_186 := Aside0.mk (Q_NB192_186 (hon 8 (by kernel_rfl)))
       have hF_t187 := HF_t187.out
       have hF_t188 := HF_t188.out
       have hF_t189 := HF_t189.out
       have hF_t190 := HF_t190.out
       have hs30 : w'.cell? ⟨gb192, 0, none⟩ = some (.float .f64 0) := (blk_cell BK192.out 0).trans rfl
       have hfs30 := blk_frozen BK192.out 0
       have hns30_0 := NB180_192.out
       have hns30_1 := NB186_192.out
       have hms30_0 := NB192_180.out
       have hms30_1 := NB192_186.out
       have hs31 : w'.cell? ⟨gb192, 1, none⟩ = some (.float .f64 0) := (blk_cell BK192.out 1).trans rfl
       have hfs31 := blk_frozen BK192.out 1
       have hns31_0 := NB180_192.out
       have hns31_1 := NB186_192.out
       have hms31_0 := NB192_180.out
       have hms31_1 := NB192_186.out
       refine skip_ (w1 := ?_) (by rfl) rfl ?_ ?_; rotate_left
       ·go_simp
        rfl
       refine hK.out _ _ ⟨b_t187, b_t188, b_t189, b_t190, gb192, m2_, m4_, m5_, m6_, m8_, (by rw [ha.out]; exact putSel_none (v := undef) rfl), fun h0_ => absurd ((hon 8 (by kernel_rfl)).symm.trans h0_) (by decide), (by (with_reducible repeat (first | refine blk_drewN ?_ _ | refine blk_drew ?_ | refine blk_alloc ?_ _)); refine blk_far ?_ NB180_192.out _; (with_reducible repeat (first | refine blk_drewN ?_ _ | refine blk_drew ?_ | refine blk_alloc ?_ _)); refine blk_far ?_ NB180_192.out _; (with_reducible repeat (first | refine blk_drewN ?_ _ | refine blk_drew ?_ | refine blk_alloc ?_ _)); exact BK180.out), (by (with_reducible repeat (first | refine blk_drewN ?_ _ | refine blk_drew ?_ | refine blk_alloc ?_ _)); refine blk_far ?_ NB186_192.out _; (with_reducible repeat (first | refine blk_drewN ?_ _ | refine blk_drew ?_ | refine blk_alloc ?_ _)); refine blk_far ?_ NB186_192.out _; (with_reducible repeat (first | refine blk_drewN ?_ _ | refine blk_drew ?_ | refine blk_alloc ?_ _)); exact BK186.out), (by repeat (first | (with_reducible first | exact HB.out | apply below_alloc | apply pw_below_drewN | apply below_drew1 | refine below_set ?_ GE192.out) | exact HB.out)), fun _ => hF_t187, fun _ => hF_t188, fun _ => hF_t189, fun _ => hF_t190, fun _ => (by (with_reducible repeat (first | apply Kd.R_alloc | apply Kd.R_drewN | apply Kd.R_drew)); exact Kd.R_mono (Kd.R_far (p := ⟨gb192, 1, none⟩) (Kd.R_far (p := ⟨gb192, 0, none⟩) (Kd.R_mono HO183.out (fun k_ hk => (⟨hk, hk.2.2⟩ : _ ∧ k_ ≠ gb192))) (fun _ hk => hk.2) (.float .f64 b_t189)) (fun _ hk => hk.2) (.float .f64 b_t190)) (fun _ hk => ⟨hk.1.1, ⟨hk.1.2.1, hk.1.2.2⟩⟩)), fun _ h1_ => absurd ((up_self b 9).symm.trans h1_) (by decide), fun _ => GW192.out, fun _ => GE192.out, fun _ => NB180_192.out, fun _ => NB192_180.out, fun _ => NB186_192.out, fun _ => NB192_186.out, fun _ => (by (with_reducible repeat (first | refine blk_drewN ?_ _ | refine blk_drew ?_ | refine blk_alloc ?_ _)); refine blk_put (cs := #[.float .f64 b_t189, .float .f64 0]) ?_ 1 _ rfl; (with_reducible repeat (first | refine blk_drewN ?_ _ | refine blk_drew ?_ | refine blk_alloc ?_ _)); refine blk_put (cs := #[.float .f64 0, .float .f64 0]) ?_ 0 _ rfl; (with_reducible repeat (first | refine blk_drewN ?_ _ | refine blk_drew ?_ | refine blk_alloc ?_ _)); exact BK192.out), Q_X2_, Q_X4_, Q_X5_, Q_X6_, Q_X8_⟩
      refine steps_cons ?_ ?_
      ·rintro b a w' ⟨b_t187, b_t188, b_t189, b_t190, gb192, m2_, m4_, m5_, m6_, m8_, ha, Q_HO183, Q_BK180, Q_BK186, Q_HB, Q_HF_t187, Q_HF_t188, Q_HF_t189, Q_HF_t190, Q_HO183_e8, Q_BK192, Q_GW192, Q_GE192, Q_NB180_192, Q_NB192_180, Q_NB186_192, Q_NB192_186, Q_BK192_e9, Q_X2_, Q_X4_, Q_X5_, Q_X6_, Q_X8_⟩ hb_ hon hoff
       refine ⟨_, rfl, fun K hK => ?_⟩
       have e49 : a.tmps[49]? = some (.bool t191) := by rw [ha]; exact putSel_on (e := (7, 49, .bool t191)) 7 rfl rfl (hon 7 (by kernel_rfl)) rfl
       replace ha := Aside0.mk ha
       have BK180 := Aside0.mk Q_BK180
       have BK186 := Aside0.mk Q_BK186
       have HB := Aside0.mk Q_HB
       have HF_t187 := Aside0.mk (Q_HF_t187 (hon 2 (by kernel_rfl)))
       have HF_t188 := Aside0.mk (Q_HF_t188 (hon 2 (by kernel_rfl)))
       have HF_t189 := Aside0.mk (Q_HF_t189 (hon 4 (by kernel_rfl)))
       have HF_t190 := Aside0.mk (Q_HF_t190 (hon 4 (by kernel_rfl)))
       have HO183 := Aside0.mk (Q_HO183_e8 (hon 8 (by kernel_rfl)))
       have GW192 := Aside0.mk (Q_GW192 (hon 8 (by kernel_rfl)))
       have GE192 := Aside0.mk (Q_GE192 (hon 8 (by kernel_rfl)))
       have NB180_192 := Aside0.mk (Q_NB180_192 (hon 8 (by kernel_rfl)))
       have NB192_180 := Aside0.mk (Q_NB192_180 (hon 8 (by kernel_rfl)))
       have NB186_192 := Aside0.mk (Q_NB186_192 (hon 8 (by kernel_rfl)))
       have NB192_186 := Aside0.mk (Q_NB192_186 (hon 8 (by kernel_rfl)))
       have BK192 := Aside0.mk (Q_BK192_e9 (hon 9 (by kernel_rfl)))
       refine value_ (w1 := w') (v := .bool t191) (by rfl) rfl ?_ ?_
       ·go_simp
        (try simp only [i64_w])
        try rfl
       refine hK.out _ _ ⟨b_t187, b_t188, b_t189, b_t190, gb192, m2_, m4_, m5_, m6_, m8_, (by rw [ha.out]; exact putSel_upk 9 hb_ rfl rfl rfl), fun h0_ => absurd ((hon 8 (by kernel_rfl)).symm.trans h0_) (by decide), Q_BK180, Q_BK186, Q_HB, Q_HF_t187, Q_HF_t188, Q_HF_t189, Q_HF_t190, Q_HO183_e8, fun _ h1_ => absurd ((hon 9 (by kernel_rfl)).symm.trans h1_) (by decide), Q_GW192, Q_GE192, Q_NB180_192, Q_NB192_180, Q_NB186_192, Q_NB192_186, Q_BK192_e9, Q_X2_, Q_X4_, Q_X5_, Q_X6_, Q_X8_⟩
      exact steps_nil
     rintro b a w31 hall ⟨b_t187, b_t188, b_t189, b_t190, gb192, m2_, m4_, m5_, m6_, m8_, ha, Q_HO183, Q_BK180, Q_BK186, Q_HB, Q_HF_t187, Q_HF_t188, Q_HF_t189, Q_HF_t190, Q_HO183_e8, Q_BK192, Q_GW192, Q_GE192, Q_NB180_192, Q_NB192_180, Q_NB186_192, Q_NB192_186, Q_BK192_e9, Q_X2_, Q_X4_, Q_X5_, Q_X6_, Q_X8_⟩
     clear BK180 BK186 HB HO183
     have hb0_ := hall 0 (by kernel_rfl)
     have hb1_ := hall 1 (by kernel_rfl)
     have hb2_ := hall 2 (by kernel_rfl)
     have hb3_ := hall 3 (by kernel_rfl)
     have hb4_ := hall 4 (by kernel_rfl)
     have hb5_ := hall 5 (by kernel_rfl)
     have hb6_ := hall 6 (by kernel_rfl)
     have hb7_ := hall 7 (by kernel_rfl)
     have hb8_ := hall 8 (by kernel_rfl)
     have hb9_ := hall 9 (by kernel_rfl)
     have hb10_ := hall 10 (by kernel_rfl)
     subst ha
     obtain rfl := Q_X2_ hb2_
     obtain rfl := Q_X4_ hb4_
     obtain rfl := Q_X5_ hb5_
     obtain rfl := Q_X6_ hb6_
     obtain rfl := Q_X8_ hb8_
     simp only [putSel, hb0_, hb1_, hb2_, hb3_, hb4_, hb5_, hb6_, hb7_, hb8_, hb9_, hb10_, if_true, Act.put, qa_, qb_, qc_]
     clear Q_HO183
     have BK180 := Aside0.mk Q_BK180
     clear Q_BK180
     have BK186 := Aside0.mk Q_BK186
     clear Q_BK186
     have HB := Aside0.mk Q_HB
     clear Q_HB
     have HF_t187 := Aside0.mk (Q_HF_t187 hb2_)
     clear Q_HF_t187
     have HF_t188 := Aside0.mk (Q_HF_t188 hb2_)
     clear Q_HF_t188
     have HF_t189 := Aside0.mk (Q_HF_t189 hb4_)
     clear Q_HF_t189
     have HF_t190 := Aside0.mk (Q_HF_t190 hb4_)
     clear Q_HF_t190
     have HO183 := Aside0.mk (Q_HO183_e8 hb8_)
     clear Q_HO183_e8
     clear Q_BK192
     have GW192 := Aside0.mk (Q_GW192 hb8_)
     clear Q_GW192
     have GE192 := Aside0.mk (Q_GE192 hb8_)
     clear Q_GE192
     have NB180_192 := Aside0.mk (Q_NB180_192 hb8_)
     clear Q_NB180_192
     have NB192_180 := Aside0.mk (Q_NB192_180 hb8_)
     clear Q_NB192_180
     have NB186_192 := Aside0.mk (Q_NB186_192 hb8_)
     clear Q_NB186_192
     have NB192_186 := Aside0.mk (Q_NB192_186 hb8_)
     clear Q_NB192_186
     have BK192 := Aside0.mk (Q_BK192_e9 hb9_)
     clear Q_BK192_e9
     clear hall hb0_ hb1_ hb2_ hb3_ hb4_ hb5_ hb6_ hb7_ hb8_ hb9_ hb10_
     have hF_t187 := HF_t187.out
     have hF_t188 := HF_t188.out
     have hF_t189 := HF_t189.out
     have hF_t190 := HF_t190.out
     have hnb32 := NB180_192.out
     have hnc32 := NB192_180.out
     have hcz33_0 : w31.cell? ⟨gb180, 0, none⟩ = some (.float .f64 b_ft177) := (blk_cell BK180.out 0).trans rfl
     have hcz33_1 : w31.cell? ⟨gb180, 1, none⟩ = some (.float .f64 b_ft179) := (blk_cell BK180.out 1).trans rfl
     have hfz33_0 := blk_frozen BK180.out 0
     have hfz33_1 := blk_frozen BK180.out 1
     go_upto_region 9 with (first | ((with_reducible refine gate_callee (f := 50) rfl ?_); refine goesL_ (some 53) rfl rfl Try.func50 (by kernel_rfl) rfl #[.agg #[.float .f64 b_ft177, .float .f64 b_ft179], .agg #[.float .f64 0, .float .f64 0]] rfl (by (try simp only [List.map_toArray, List.map_cons, List.map_nil]); first | done | rfl | (simp only [List.length_drop, List.length_take]; rfl)) ?_; (with_reducible refine (impl_CxOver.calls k b_ft177 ft177 b_ft179 ft179 0 (cn .f64 0) 0 (cn .f64 0) t193 t194 t195 _ ?side1 ?side2 ?side3 ?side4 A13.out).mono ?_); (case side1 => exact hF_ft177); (case side2 => exact hF_ft179); (case side3 => exact rfl); (case side4 => exact rfl); rintro e w34 ⟨b_t193, b_t194, rfl, hF_t193, hF_t194, hb⟩; refine ⟨_, rfl, ?_⟩; have n0_ := Aside0.mk (Kd.R_below (by exact HO183.out) hb); have n1_ := Aside0.mk (blk_below (g := gb180) (o := .cells #[.float .f64 b_ft177, .float .f64 b_ft179] 34 (0, 0)) (by exact BK180.out) hb); have n2_ := Aside0.mk (blk_below (g := gb186) (o := .cells #[.float .f64 b_fr185_0, .float .f64 b_fr185_1] 34 (0, 0)) (by exact BK186.out) hb); have n3_ := Aside0.mk (blk_below (g := gb192) (o := .cells #[.float .f64 b_t189, .float .f64 b_t190] 34 (0, 0)) (by exact BK192.out) hb); have n4_ := Aside0.mk (below_step (by exact HB.out) hb); clear HO183; clear BK180; clear BK186; clear BK192; clear HB; have HO183 := n0_; have BK180 := n1_; have BK186 := n2_; have BK192 := n3_; have HB := n4_; clear n0_ n1_ n2_ n3_ n4_; (try clear hb); (try clear hb2); (try clear hk); (try clear hi)) | ((with_reducible refine gate_dst (N := 8) rfl ?_); (try (refine gate_guard (by rfl) ?_; dsimp only)); refine box_event ?hg (N := 8) ?hd (cs := #[.float .f64 0, .float .f64 0]) (t := 34) ?hr ?_; (case hd => rfl); (case hg => rfl); (case hr => first | (go_simp; done) | (go_simp; rfl)); intro gb196 hg w35 hbox hb; have n0_ := Aside0.mk (Kd.R_below (Kd.R_elderB (by exact HO183.out) gb196 (Nat.le_of_eq hg.symm)) hb); have n1_ := Aside0.mk (blk_below (g := gb180) (o := .cells #[.float .f64 b_ft177, .float .f64 b_ft179] 34 (0, 0)) (by exact BK180.out) hb); have n2_ := Aside0.mk (blk_below (g := gb186) (o := .cells #[.float .f64 b_fr185_0, .float .f64 b_fr185_1] 34 (0, 0)) (by exact BK186.out) hb); have n3_ := Aside0.mk (blk_below (g := gb192) (o := .cells #[.float .f64 b_t189, .float .f64 b_t190] 34 (0, 0)) (by exact BK192.out) hb); have n4_ := Aside0.mk (below_step (by exact HB.out) hb); have n5_ := Aside0.mk (hbox); have n6_ := Aside0.mk ((by rw [hg]; exact (below_size (by exact HB.out)) : w.heap.size ≤ gb196)); have n7_ := Aside0.mk ((n6_.out)); have n8_ := Aside0.mk ((by rw [hg]; exact Nat.ne_of_lt (blk_lt (g := gb180) (o := .cells #[.float .f64 b_ft177, .float .f64 b_ft179] 34 (0, 0)) (by exact BK180.out)) : gb180 ≠ gb196)); have n9_ := Aside0.mk ((n8_.out.symm)); have n10_ := Aside0.mk ((by rw [hg]; exact Nat.ne_of_lt (blk_lt (g := gb186) (o := .cells #[.float .f64 b_fr185_0, .float .f64 b_fr185_1] 34 (0, 0)) (by exact BK186.out)) : gb186 ≠ gb196)); have n11_ := Aside0.mk ((n10_.out.symm)); have n12_ := Aside0.mk ((by rw [hg]; exact Nat.ne_of_lt (blk_lt (g := gb192) (o := .cells #[.float .f64 b_t189, .float .f64 b_t190] 34 (0, 0)) (by exact BK192.out)) : gb192 ≠ gb196)); have n13_ := Aside0.mk ((n12_.out.symm)); clear HO183; clear BK180; clear BK186; clear BK192; clear HB; have HO183 := n0_; have BK180 := n1_; have BK186 := n2_; have BK192 := n3_; have HB := n4_; have BK196 := n5_; have GW196 := n6_; have GE196 := n7_; have NB180_196 := n8_; have NB196_180 := n9_; have NB186_196 := n10_; have NB196_186 := n11_; have NB192_196 := n12_; have NB196_192 := n13_; clear n0_ n1_ n2_ n3_ n4_ n5_ n6_ n7_ n8_ n9_ n10_ n11_ n12_ n13_; clear hb hbox hg; have hnb36 := NB196_180.out; have hnc36 := NB180_196.out; have hnb37 := NB196_186.out; have hnc37 := NB186_196.out; have hnb38 := NB196_192.out; have hnc38 := NB192_196.out; have hcz39_0 : w35.cell? ⟨gb196, 0, none⟩ = some (.float .f64 0) := (blk_cell BK196.out 0).trans rfl; have hcz39_1 : w35.cell? ⟨gb196, 1, none⟩ = some (.float .f64 0) := (blk_cell BK196.out 1).trans rfl; have hfz39_0 := blk_frozen BK196.out 0; have hfz39_1 := blk_frozen BK196.out 1) | ((with_reducible refine gate_callee (f := 29) rfl ?_); refine goesL_ (some 58) rfl rfl Try.func29 (by kernel_rfl) rfl #[.agg #[.float .f64 0, .float .f64 4607182418800017408], .int .i64 8] rfl (by (try simp only [List.map_toArray, List.map_cons, List.map_nil]); first | done | rfl | (simp only [List.length_drop, List.length_take]; rfl)) ?_; (with_reducible refine (impl_Steps4.calls k 0 (cn .f64 0) 4607182418800017408 (cn .f64 4607182418800017408) 8 t197 t200 _ ?side1 ?side2 A14.out).mono ?_); (case side1 => exact rfl); (case side2 => exact rfl); rintro e w40 ⟨v198, rfl, ho0, hb⟩; refine ⟨_, rfl, ?_⟩; have n0_ := Aside0.mk (Kd.R_below (by (with_reducible repeat (first | apply Kd.R_alloc | apply Kd.R_drewN | apply Kd.R_drew)); exact (Kd.R_mono (Kd.R_far (p := ⟨gb196, 1, none⟩) (Kd.R_far (p := ⟨gb196, 0, none⟩) (Kd.R_mono HO183.out (fun k_ hk => (⟨hk, hk.2⟩ : _ ∧ k_ ≠ gb196))) (fun _ hk => hk.2) (.float .f64 b_t193)) (fun _ hk => hk.2) (.float .f64 b_t194)) (fun _ h_ => h_.1))) hb); have n1_ := Aside0.mk (Kd.R_lower ho0 (below_size (by repeat (first | (with_reducible first | exact HB.out | apply below_alloc | apply pw_below_drewN | apply below_drew1 | refine below_set ?_ GE196.out) | exact HB.out)))); have n2_ := Aside0.mk (blk_below (g := gb180) (o := .cells #[.float .f64 b_ft177, .float .f64 b_ft179] 34 (0, 0)) (by (with_reducible repeat (first | refine blk_drewN ?_ _ | refine blk_drew ?_ | refine blk_alloc ?_ _)); refine blk_far ?_ NB180_196.out _; (with_reducible repeat (first | refine blk_drewN ?_ _ | refine blk_drew ?_ | refine blk_alloc ?_ _)); refine blk_far ?_ NB180_196.out _; (with_reducible repeat (first | refine blk_drewN ?_ _ | refine blk_drew ?_ | refine blk_alloc ?_ _)); exact BK180.out) hb); have n3_ := Aside0.mk (blk_below (g := gb186) (o := .cells #[.float .f64 b_fr185_0, .float .f64 b_fr185_1] 34 (0, 0)) (by (with_reducible repeat (first | refine blk_drewN ?_ _ | refine blk_drew ?_ | refine blk_alloc ?_ _)); refine blk_far ?_ NB186_196.out _; (with_reducible repeat (first | refine blk_drewN ?_ _ | refine blk_drew ?_ | refine blk_alloc ?_ _)); refine blk_far ?_ NB186_196.out _; (with_reducible repeat (first | refine blk_drewN ?_ _ | refine blk_drew ?_ | refine blk_alloc ?_ _)); exact BK186.out) hb); have n4_ := Aside0.mk (blk_below (g := gb192) (o := .cells #[.float .f64 b_t189, .float .f64 b_t190] 34 (0, 0)) (by (with_reducible repeat (first | refine blk_drewN ?_ _ | refine blk_drew ?_ | refine blk_alloc ?_ _)); refine blk_far ?_ NB192_196.out _; (with_reducible repeat (first | refine blk_drewN ?_ _ | refine blk_drew ?_ | refine blk_alloc ?_ _)); refine blk_far ?_ NB192_196.out _; (with_reducible repeat (first | refine blk_drewN ?_ _ | refine blk_drew ?_ | refine blk_alloc ?_ _)); exact BK192.out) hb); have n5_ := Aside0.mk (blk_below (g := gb196) (o := .cells #[.float .f64 b_t193, .float .f64 b_t194] 34 (0, 0)) (by (with_reducible repeat (first | refine blk_drewN ?_ _ | refine blk_drew ?_ | refine blk_alloc ?_ _)); refine blk_put (cs := #[.float .f64 b_t193, .float .f64 0]) ?_ 1 _ rfl; (with_reducible repeat (first | refine blk_drewN ?_ _ | refine blk_drew ?_ | refine blk_alloc ?_ _)); refine blk_put (cs := #[.float .f64 0, .float .f64 0]) ?_ 0 _ rfl; (with_reducible repeat (first | refine blk_drewN ?_ _ | refine blk_drew ?_ | refine blk_alloc ?_ _)); exact BK196.out) hb); have n6_ := Aside0.mk (below_step (by repeat (first | (with_reducible first | exact HB.out | apply below_alloc | apply pw_below_drewN | apply below_drew1 | refine below_set ?_ GE196.out) | exact HB.out)) hb); clear HO183; clear BK180; clear BK186; clear BK192; clear BK196; clear HB; have HO183 := n0_; have HO199 := n1_; have BK180 := n2_; have BK186 := n3_; have BK192 := n4_; have BK196 := n5_; have HB := n6_; clear n0_ n1_ n2_ n3_ n4_ n5_ n6_; (try clear hb); (try clear hb2); (try clear hk); (try clear hi); (try clear ho0)))
     (try simp only [Act.put, qa_, qb_, qc_])
     go_cut [80] (fun v80 wc => ∃ (kq : Nat) (x80_14 : Bool), v80 = .bool x80_14 ∧ Aside0 (laws_FnQuotient.j0 kq t197 x80_14 ft177 ft179 fr185_0 fr185_1 = some r) ∧ Aside0 (kq ≤ k) ∧ Aside0 (Kd.R k80 80 wc w.heap.size (fun _ => True) v198 t197) ∧ Aside0 (wc.heap[gb180]? = some (.cells #[.float .f64 b_ft177, .float .f64 b_ft179] 34 (0, 0))) ∧ Aside0 (wc.heap[gb186]? = some (.cells #[.float .f64 b_fr185_0, .float .f64 b_fr185_1] 34 (0, 0))) ∧ Aside0 (wc.heap[gb192]? = some (.cells #[.float .f64 b_t189, .float .f64 b_t190] 34 (0, 0))) ∧ Aside0 (Below w.heap.size w wc))
     case first =>
      have H := HC15.out
      clear HC15
      by_cases c41 : t191 = true
      ·subst c41
       have H1 : (if t195 = true then (laws_FnQuotient.j0 k t197 true ft177 ft179 fr185_0 fr185_1) else ((impl_CxSame.f t189 t190 ft177 ft179).bind fun t201 => (if t201 = true then (if t200 = true then (laws_FnQuotient.j0 k t197 ((t197.length : Int) != 9) ft177 ft179 fr185_0 fr185_1) else (laws_FnQuotient.j0 k t197 true ft177 ft179 fr185_0 fr185_1)) else (laws_FnQuotient.j0 k t197 true ft177 ft179 fr185_0 fr185_1)))) = some r := by rw [if_pos rfl] at H; exact H
       clear H
       have H := H1
       clear H1
       by_cases c42 : t195 = true
       ·subst c42
        have H1 : (laws_FnQuotient.j0 k t197 true ft177 ft179 fr185_0 fr185_1) = some r := by rw [if_pos rfl] at H; exact H
        clear H
        have H := H1
        clear H1
        have H' := Aside0.mk H
        clear H
        go_wp2
        go_meet
        case rel => exact ⟨_, (true), (by first | rfl | (simp; done) | (simp [*]; done)), H', ⟨by first | omega | exact Nat.le_refl _⟩, ⟨by (with_reducible repeat (first | apply Kd.R_alloc | apply Kd.R_drewN | apply Kd.R_drew)); exact HO199.out⟩, ⟨by (with_reducible repeat (first | refine blk_drewN ?_ _ | refine blk_drew ?_ | refine blk_alloc ?_ _)); exact BK180.out⟩, ⟨by (with_reducible repeat (first | refine blk_drewN ?_ _ | refine blk_drew ?_ | refine blk_alloc ?_ _)); exact BK186.out⟩, ⟨by (with_reducible repeat (first | refine blk_drewN ?_ _ | refine blk_drew ?_ | refine blk_alloc ?_ _)); exact BK192.out⟩, ⟨by repeat (first | (with_reducible first | exact HB.out | apply below_alloc | apply pw_below_drewN | apply below_drew1) | exact HB.out)⟩⟩
       ·replace c42 := Bool.eq_false_iff.mpr c42
        subst c42
        have H1 : ((impl_CxSame.f t189 t190 ft177 ft179).bind fun t201 => (if t201 = true then (if t200 = true then (laws_FnQuotient.j0 k t197 ((t197.length : Int) != 9) ft177 ft179 fr185_0 fr185_1) else (laws_FnQuotient.j0 k t197 true ft177 ft179 fr185_0 fr185_1)) else (laws_FnQuotient.j0 k t197 true ft177 ft179 fr185_0 fr185_1))) = some r := by rw [if_neg (show ¬ (false = true) by decide)] at H; exact H
        clear H
        have H := H1
        clear H1
        replace H := Option.bind_eq_some_iff.mp H
        obtain ⟨t201, A430, H⟩ := H
        replace H : (if t201 = true then (if t200 = true then (laws_FnQuotient.j0 k t197 ((t197.length : Int) != 9) ft177 ft179 fr185_0 fr185_1) else (laws_FnQuotient.j0 k t197 true ft177 ft179 fr185_0 fr185_1)) else (laws_FnQuotient.j0 k t197 true ft177 ft179 fr185_0 fr185_1)) = some r := H
        have A43 := Aside0.mk A430
        clear A430
        by_cases c44 : t201 = true
        ·subst c44
         have H1 : (if t200 = true then (laws_FnQuotient.j0 k t197 ((t197.length : Int) != 9) ft177 ft179 fr185_0 fr185_1) else (laws_FnQuotient.j0 k t197 true ft177 ft179 fr185_0 fr185_1)) = some r := by rw [if_pos rfl] at H; exact H
         clear H
         have H := H1
         clear H1
         by_cases c45 : t200 = true
         ·subst c45
          have H1 : (laws_FnQuotient.j0 k t197 ((t197.length : Int) != 9) ft177 ft179 fr185_0 fr185_1) = some r := by rw [if_pos rfl] at H; exact H
          clear H
          have H := H1
          clear H1
          have H' := Aside0.mk H
          clear H
          have hnb46 := NB192_180.out
          have hnc46 := NB180_192.out
          have hnb47 := NB192_186.out
          have hnc47 := NB186_192.out
          have hnb48 := NB192_196.out
          have hnc48 := NB196_192.out
          have hcz49_0 : w40.cell? ⟨gb192, 0, none⟩ = some (.float .f64 b_t189) := (blk_cell BK192.out 0).trans rfl
          have hcz49_1 : w40.cell? ⟨gb192, 1, none⟩ = some (.float .f64 b_t190) := (blk_cell BK192.out 1).trans rfl
          have hfz49_0 := blk_frozen BK192.out 0
          have hfz49_1 := blk_frozen BK192.out 1
          have hnb50 := NB180_186.out
          have hnc50 := NB186_180.out
          have hnb51 := NB180_196.out
          have hnc51 := NB196_180.out
          have hcz52_0 : w40.cell? ⟨gb180, 0, none⟩ = some (.float .f64 b_ft177) := (blk_cell BK180.out 0).trans rfl
          have hcz52_1 : w40.cell? ⟨gb180, 1, none⟩ = some (.float .f64 b_ft179) := (blk_cell BK180.out 1).trans rfl
          have hfz52_0 := blk_frozen BK180.out 0
          have hfz52_1 := blk_frozen BK180.out 1
          go_wp2_with (first | (go_at_call 52; (with_reducible refine (impl_CxSame.calls b_t189 t189 b_t190 t190 b_ft177 ft177 b_ft179 ft179 true _ ?side1 ?side2 ?side3 ?side4 A43.out).mono ?_); (case side1 => exact hF_t189); (case side2 => exact hF_t190); (case side3 => exact hF_ft177); (case side4 => exact hF_ft179); rintro e w53 ⟨rfl, hb⟩; have n0_ := Aside0.mk (Kd.R_below (by exact HO183.out) hb); have n1_ := Aside0.mk (Kd.R_below (by exact HO199.out) hb); have n2_ := Aside0.mk (blk_below (g := gb180) (o := .cells #[.float .f64 b_ft177, .float .f64 b_ft179] 34 (0, 0)) (by exact BK180.out) hb); have n3_ := Aside0.mk (blk_below (g := gb186) (o := .cells #[.float .f64 b_fr185_0, .float .f64 b_fr185_1] 34 (0, 0)) (by exact BK186.out) hb); have n4_ := Aside0.mk (blk_below (g := gb192) (o := .cells #[.float .f64 b_t189, .float .f64 b_t190] 34 (0, 0)) (by exact BK192.out) hb); have n5_ := Aside0.mk (blk_below (g := gb196) (o := .cells #[.float .f64 b_t193, .float .f64 b_t194] 34 (0, 0)) (by exact BK196.out) hb); have n6_ := Aside0.mk (below_step (by exact HB.out) hb); clear HO183; clear HO199; clear BK180; clear BK186; clear BK192; clear BK196; clear HB; have HO183 := n0_; have HO199 := n1_; have BK180 := n2_; have BK186 := n3_; have BK192 := n4_; have BK196 := n5_; have HB := n6_; clear n0_ n1_ n2_ n3_ n4_ n5_ n6_; (try clear hb); (try clear hb2); (try clear hk); (try clear hi); obtain ⟨Ao54, co54, eo54⟩ := Kd.R_slice HO199.out; subst eo54))
          go_meet
          case rel => exact ⟨_, (((t197.length : Int) != 9)), (by first | rfl | (simp; done) | (simp [*]; done)), H', ⟨by first | omega | exact Nat.le_refl _⟩, ⟨by (with_reducible repeat (first | apply Kd.R_alloc | apply Kd.R_drewN | apply Kd.R_drew)); exact HO199.out⟩, ⟨by (with_reducible repeat (first | refine blk_drewN ?_ _ | refine blk_drew ?_ | refine blk_alloc ?_ _)); exact BK180.out⟩, ⟨by (with_reducible repeat (first | refine blk_drewN ?_ _ | refine blk_drew ?_ | refine blk_alloc ?_ _)); exact BK186.out⟩, ⟨by (with_reducible repeat (first | refine blk_drewN ?_ _ | refine blk_drew ?_ | refine blk_alloc ?_ _)); exact BK192.out⟩, ⟨by repeat (first | (with_reducible first | exact HB.out | apply below_alloc | apply pw_below_drewN | apply below_drew1) | exact HB.out)⟩⟩
         ·replace c45 := Bool.eq_false_iff.mpr c45
          subst c45
          have H1 : (laws_FnQuotient.j0 k t197 true ft177 ft179 fr185_0 fr185_1) = some r := by rw [if_neg (show ¬ (false = true) by decide)] at H; exact H
          clear H
          have H := H1
          clear H1
          have H' := Aside0.mk H
          clear H
          have hnb55 := NB192_180.out
          have hnc55 := NB180_192.out
          have hnb56 := NB192_186.out
          have hnc56 := NB186_192.out
          have hnb57 := NB192_196.out
          have hnc57 := NB196_192.out
          have hcz58_0 : w40.cell? ⟨gb192, 0, none⟩ = some (.float .f64 b_t189) := (blk_cell BK192.out 0).trans rfl
          have hcz58_1 : w40.cell? ⟨gb192, 1, none⟩ = some (.float .f64 b_t190) := (blk_cell BK192.out 1).trans rfl
          have hfz58_0 := blk_frozen BK192.out 0
          have hfz58_1 := blk_frozen BK192.out 1
          have hnb59 := NB180_186.out
          have hnc59 := NB186_180.out
          have hnb60 := NB180_196.out
          have hnc60 := NB196_180.out
          have hcz61_0 : w40.cell? ⟨gb180, 0, none⟩ = some (.float .f64 b_ft177) := (blk_cell BK180.out 0).trans rfl
          have hcz61_1 : w40.cell? ⟨gb180, 1, none⟩ = some (.float .f64 b_ft179) := (blk_cell BK180.out 1).trans rfl
          have hfz61_0 := blk_frozen BK180.out 0
          have hfz61_1 := blk_frozen BK180.out 1
          go_wp2_with (first | (go_at_call 52; (with_reducible refine (impl_CxSame.calls b_t189 t189 b_t190 t190 b_ft177 ft177 b_ft179 ft179 true _ ?side1 ?side2 ?side3 ?side4 A43.out).mono ?_); (case side1 => exact hF_t189); (case side2 => exact hF_t190); (case side3 => exact hF_ft177); (case side4 => exact hF_ft179); rintro e w62 ⟨rfl, hb⟩; have n0_ := Aside0.mk (Kd.R_below (by exact HO183.out) hb); have n1_ := Aside0.mk (Kd.R_below (by exact HO199.out) hb); have n2_ := Aside0.mk (blk_below (g := gb180) (o := .cells #[.float .f64 b_ft177, .float .f64 b_ft179] 34 (0, 0)) (by exact BK180.out) hb); have n3_ := Aside0.mk (blk_below (g := gb186) (o := .cells #[.float .f64 b_fr185_0, .float .f64 b_fr185_1] 34 (0, 0)) (by exact BK186.out) hb); have n4_ := Aside0.mk (blk_below (g := gb192) (o := .cells #[.float .f64 b_t189, .float .f64 b_t190] 34 (0, 0)) (by exact BK192.out) hb); have n5_ := Aside0.mk (blk_below (g := gb196) (o := .cells #[.float .f64 b_t193, .float .f64 b_t194] 34 (0, 0)) (by exact BK196.out) hb); have n6_ := Aside0.mk (below_step (by exact HB.out) hb); clear HO183; clear HO199; clear BK180; clear BK186; clear BK192; clear BK196; clear HB; have HO183 := n0_; have HO199 := n1_; have BK180 := n2_; have BK186 := n3_; have BK192 := n4_; have BK196 := n5_; have HB := n6_; clear n0_ n1_ n2_ n3_ n4_ n5_ n6_; (try clear hb); (try clear hb2); (try clear hk); (try clear hi)))
          go_meet
          case rel => exact ⟨_, (true), (by first | rfl | (simp; done) | (simp [*]; done)), H', ⟨by first | omega | exact Nat.le_refl _⟩, ⟨by (with_reducible repeat (first | apply Kd.R_alloc | apply Kd.R_drewN | apply Kd.R_drew)); exact HO199.out⟩, ⟨by (with_reducible repeat (first | refine blk_drewN ?_ _ | refine blk_drew ?_ | refine blk_alloc ?_ _)); exact BK180.out⟩, ⟨by (with_reducible repeat (first | refine blk_drewN ?_ _ | refine blk_drew ?_ | refine blk_alloc ?_ _)); exact BK186.out⟩, ⟨by (with_reducible repeat (first | refine blk_drewN ?_ _ | refine blk_drew ?_ | refine blk_alloc ?_ _)); exact BK192.out⟩, ⟨by repeat (first | (with_reducible first | exact HB.out | apply below_alloc | apply pw_below_drewN | apply below_drew1) | exact HB.out)⟩⟩
        ·replace c44 := Bool.eq_false_iff.mpr c44
         subst c44
         have H1 : (laws_FnQuotient.j0 k t197 true ft177 ft179 fr185_0 fr185_1) = some r := by rw [if_neg (show ¬ (false = true) by decide)] at H; exact H
         clear H
         have H := H1
         clear H1
         have H' := Aside0.mk H
         clear H
         have hnb63 := NB192_180.out
         have hnc63 := NB180_192.out
         have hnb64 := NB192_186.out
         have hnc64 := NB186_192.out
         have hnb65 := NB192_196.out
         have hnc65 := NB196_192.out
         have hcz66_0 : w40.cell? ⟨gb192, 0, none⟩ = some (.float .f64 b_t189) := (blk_cell BK192.out 0).trans rfl
         have hcz66_1 : w40.cell? ⟨gb192, 1, none⟩ = some (.float .f64 b_t190) := (blk_cell BK192.out 1).trans rfl
         have hfz66_0 := blk_frozen BK192.out 0
         have hfz66_1 := blk_frozen BK192.out 1
         have hnb67 := NB180_186.out
         have hnc67 := NB186_180.out
         have hnb68 := NB180_196.out
         have hnc68 := NB196_180.out
         have hcz69_0 : w40.cell? ⟨gb180, 0, none⟩ = some (.float .f64 b_ft177) := (blk_cell BK180.out 0).trans rfl
         have hcz69_1 : w40.cell? ⟨gb180, 1, none⟩ = some (.float .f64 b_ft179) := (blk_cell BK180.out 1).trans rfl
         have hfz69_0 := blk_frozen BK180.out 0
         have hfz69_1 := blk_frozen BK180.out 1
         go_wp2_with (first | (go_at_call 52; (with_reducible refine (impl_CxSame.calls b_t189 t189 b_t190 t190 b_ft177 ft177 b_ft179 ft179 false _ ?side1 ?side2 ?side3 ?side4 A43.out).mono ?_); (case side1 => exact hF_t189); (case side2 => exact hF_t190); (case side3 => exact hF_ft177); (case side4 => exact hF_ft179); rintro e w70 ⟨rfl, hb⟩; have n0_ := Aside0.mk (Kd.R_below (by exact HO183.out) hb); have n1_ := Aside0.mk (Kd.R_below (by exact HO199.out) hb); have n2_ := Aside0.mk (blk_below (g := gb180) (o := .cells #[.float .f64 b_ft177, .float .f64 b_ft179] 34 (0, 0)) (by exact BK180.out) hb); have n3_ := Aside0.mk (blk_below (g := gb186) (o := .cells #[.float .f64 b_fr185_0, .float .f64 b_fr185_1] 34 (0, 0)) (by exact BK186.out) hb); have n4_ := Aside0.mk (blk_below (g := gb192) (o := .cells #[.float .f64 b_t189, .float .f64 b_t190] 34 (0, 0)) (by exact BK192.out) hb); have n5_ := Aside0.mk (blk_below (g := gb196) (o := .cells #[.float .f64 b_t193, .float .f64 b_t194] 34 (0, 0)) (by exact BK196.out) hb); have n6_ := Aside0.mk (below_step (by exact HB.out) hb); clear HO183; clear HO199; clear BK180; clear BK186; clear BK192; clear BK196; clear HB; have HO183 := n0_; have HO199 := n1_; have BK180 := n2_; have BK186 := n3_; have BK192 := n4_; have BK196 := n5_; have HB := n6_; clear n0_ n1_ n2_ n3_ n4_ n5_ n6_; (try clear hb); (try clear hb2); (try clear hk); (try clear hi)))
         go_meet
         case rel => exact ⟨_, (true), (by first | rfl | (simp; done) | (simp [*]; done)), H', ⟨by first | omega | exact Nat.le_refl _⟩, ⟨by (with_reducible repeat (first | apply Kd.R_alloc | apply Kd.R_drewN | apply Kd.R_drew)); exact HO199.out⟩, ⟨by (with_reducible repeat (first | refine blk_drewN ?_ _ | refine blk_drew ?_ | refine blk_alloc ?_ _)); exact BK180.out⟩, ⟨by (with_reducible repeat (first | refine blk_drewN ?_ _ | refine blk_drew ?_ | refine blk_alloc ?_ _)); exact BK186.out⟩, ⟨by (with_reducible repeat (first | refine blk_drewN ?_ _ | refine blk_drew ?_ | refine blk_alloc ?_ _)); exact BK192.out⟩, ⟨by repeat (first | (with_reducible first | exact HB.out | apply below_alloc | apply pw_below_drewN | apply below_drew1) | exact HB.out)⟩⟩
      ·replace c41 := Bool.eq_false_iff.mpr c41
       subst c41
       have H1 : (laws_FnQuotient.j0 k t197 true ft177 ft179 fr185_0 fr185_1) = some r := by rw [if_neg (show ¬ (false = true) by decide)] at H; exact H
       clear H
       have H := H1
       clear H1
       have H' := Aside0.mk H
       clear H
       go_wp2
       go_meet
       case rel => exact ⟨_, (true), (by first | rfl | (simp; done) | (simp [*]; done)), H', ⟨by first | omega | exact Nat.le_refl _⟩, ⟨by (with_reducible repeat (first | apply Kd.R_alloc | apply Kd.R_drewN | apply Kd.R_drew)); exact HO199.out⟩, ⟨by (with_reducible repeat (first | refine blk_drewN ?_ _ | refine blk_drew ?_ | refine blk_alloc ?_ _)); exact BK180.out⟩, ⟨by (with_reducible repeat (first | refine blk_drewN ?_ _ | refine blk_drew ?_ | refine blk_alloc ?_ _)); exact BK186.out⟩, ⟨by (with_reducible repeat (first | refine blk_drewN ?_ _ | refine blk_drew ?_ | refine blk_alloc ?_ _)); exact BK192.out⟩, ⟨by repeat (first | (with_reducible first | exact HB.out | apply below_alloc | apply pw_below_drewN | apply below_drew1) | exact HB.out)⟩⟩
     case rest =>
      clear HC15
      try clear c1
      try clear p1
      try clear q1
      try clear hx1
      try clear c2
      try clear p2
      try clear c3
      try clear c4
      try clear c5
      try clear c6
      try clear p6
      try clear c7
      try clear c7b0
      try clear c7b1
      try clear c7b2
      try clear c9
      try clear c9b0
      try clear c10
      try clear c10b0
      try clear p18
      try clear q18
      try clear hx18
      try clear c22
      try clear c29
      try clear c32
      try clear c36
      try clear c37
      try clear c38
      try clear c41
      try clear c42
      try clear c44
      try clear c45
      try clear c46
      try clear c47
      try clear c48
      try clear c49
      try clear c50
      try clear c51
      try clear c55
      try clear c56
      try clear c57
      try clear c59
      try clear c60
      try clear c63
      try clear c64
      try clear p64
      try clear c65
      try clear c67
      try clear c68
      try clear hcz17_0
      try clear hcz17_1
      try clear hcz23_0
      try clear hcz23_1
      try clear hcz33_0
      try clear hcz33_1
      try clear hcz39_0
      try clear hcz39_1
      try clear hcz49_0
      try clear hcz49_1
      try clear hcz52_0
      try clear hcz52_1
      try clear hcz58_0
      try clear hcz58_1
      try clear hcz61_0
      try clear hcz61_1
      try clear hcz66_0
      try clear hcz66_1
      try clear hcz69_0
      try clear hcz69_1
      try clear hfz17_0
      try clear hfz17_1
      try clear hfz23_0
      try clear hfz23_1
      try clear hfz33_0
      try clear hfz33_1
      try clear hfz39_0
      try clear hfz39_1
      try clear hfz49_0
      try clear hfz49_1
      try clear hfz52_0
      try clear hfz52_1
      try clear hfz58_0
      try clear hfz58_1
      try clear hfz61_0
      try clear hfz61_1
      try clear hfz66_0
      try clear hfz66_1
      try clear hfz69_0
      try clear hfz69_1
      try clear hx185_0
      try clear hx185_1
      try clear p185
      try clear q185
      obtain ⟨kq, x80_14, rfl, HA, HJ14, HO_10, BK180, BK186, BK192, HB⟩ := hcut
      cases kq with
      | zero => exact absurd HA.out (by simp [laws_FnQuotient.j0])
      | succ kj14 =>
       have H := HA.out
       clear HA
       simp only [laws_FnQuotient.j0] at H
       by_cases c71 : x80_14 = true
       ·subst c71
        have H1 : (some false) = some r := by rw [if_pos rfl] at H; exact H
        clear H
        have H := H1
        clear H1
        obtain rfl := Option.some.inj H
        go_wp2
        go_ret
        exact ⟨by first | rfl | (simp [errW_none, errW_some] <;> rfl) | (simp only [← hji8]; first | rfl | (simp [errW_none, errW_some] <;> rfl)) | (simp [*, errW_none, errW_some] <;> rfl), by repeat (first | (with_reducible first | exact HB.out | apply below_alloc | apply pw_below_drewN | apply below_drew1) | exact HB.out)⟩
       ·replace c71 := Bool.eq_false_iff.mpr c71
        subst c71
        have H1 : (laws_FnQuotient.l0 kj14 t197 0 ft177 ft179 fr185_0 fr185_1) = some r := by rw [if_neg (show ¬ (false = true) by decide)] at H; exact H
        clear H
        have H := H1
        clear H1
        have H' := Aside0.mk H
        clear H
        go_wp2
        go_loopg [12] kj14 (fun kq v12 w' => ∃ (x12_2 : Int), v12 = .int .i64 x12_2 ∧ Aside0 (laws_FnQuotient.l0 kq t197 x12_2 ft177 ft179 fr185_0 fr185_1 = some r) ∧ Aside0 (kq ≤ kj14) ∧ Aside0 (Kd.R k80 80 w' w.heap.size (fun _ => True) v198 t197) ∧ Aside0 (w'.heap[gb180]? = some (.cells #[.float .f64 b_ft177, .float .f64 b_ft179] 34 (0, 0))) ∧ Aside0 (w'.heap[gb186]? = some (.cells #[.float .f64 b_fr185_0, .float .f64 b_fr185_1] 34 (0, 0))) ∧ Aside0 (Below w.heap.size w w'))
        case atStart => exact ⟨(0), (by first | rfl | (simp; done) | (simp [*]; done)), H', ⟨Nat.le_refl _⟩, ⟨by (with_reducible repeat (first | apply Kd.R_alloc | apply Kd.R_drewN | apply Kd.R_drew)); exact HO_10.out⟩, ⟨by (with_reducible repeat (first | refine blk_drewN ?_ _ | refine blk_drew ?_ | refine blk_alloc ?_ _)); exact BK180.out⟩, ⟨by (with_reducible repeat (first | refine blk_drewN ?_ _ | refine blk_drew ?_ | refine blk_alloc ?_ _)); exact BK186.out⟩, ⟨by repeat (first | (with_reducible first | exact HB.out | apply below_alloc | apply pw_below_drewN | apply below_drew1) | exact HB.out)⟩⟩
        case round =>
         clear H'
         try clear c1
         try clear p1
         try clear q1
         try clear hx1
         try clear c2
         try clear p2
         try clear c3
         try clear c4
         try clear c5
         try clear c6
         try clear p6
         try clear c7
         try clear c7b0
         try clear c7b1
         try clear c7b2
         try clear c9
         try clear c9b0
         try clear c10
         try clear c10b0
         try clear p18
         try clear q18
         try clear hx18
         try clear c22
         try clear c29
         try clear c32
         try clear c36
         try clear c37
         try clear c38
         try clear c41
         try clear c42
         try clear c44
         try clear c45
         try clear c46
         try clear c47
         try clear c48
         try clear c49
         try clear c50
         try clear c51
         try clear c55
         try clear c56
         try clear c57
         try clear c59
         try clear c60
         try clear c63
         try clear c64
         try clear p64
         try clear c65
         try clear c67
         try clear c68
         try clear c71
         try clear hcz17_0
         try clear hcz17_1
         try clear hcz23_0
         try clear hcz23_1
         try clear hcz33_0
         try clear hcz33_1
         try clear hcz39_0
         try clear hcz39_1
         try clear hcz49_0
         try clear hcz49_1
         try clear hcz52_0
         try clear hcz52_1
         try clear hcz58_0
         try clear hcz58_1
         try clear hcz61_0
         try clear hcz61_1
         try clear hcz66_0
         try clear hcz66_1
         try clear hcz69_0
         try clear hcz69_1
         try clear hfz17_0
         try clear hfz17_1
         try clear hfz23_0
         try clear hfz23_1
         try clear hfz33_0
         try clear hfz33_1
         try clear hfz39_0
         try clear hfz39_1
         try clear hfz49_0
         try clear hfz49_1
         try clear hfz52_0
         try clear hfz52_1
         try clear hfz58_0
         try clear hfz58_1
         try clear hfz61_0
         try clear hfz61_1
         try clear hfz66_0
         try clear hfz66_1
         try clear hfz69_0
         try clear hfz69_1
         try clear hx185_0
         try clear hx185_1
         try clear p1
         try clear p18
         try clear p185
         try clear p2
         try clear p6
         try clear p64
         try clear q1
         try clear q18
         try clear q185
         obtain ⟨x12_2, rfl, HA, HK2, HO_10, BK180, BK186, HB⟩ := hrel
         cases gk with
         | zero => exact absurd HA.out (by simp [laws_FnQuotient.l0])
         | succ k2 =>
          have H := HA.out
          clear HA
          simp only [laws_FnQuotient.l0] at H
          by_cases c72 : x12_2 < 9
          ·rw [if_pos c72] at H
           have c72b0 : decide (x12_2 < 9) = true := decide_eq_true c72
           clear c72
           have HC73 := Aside0.mk H
           clear H
           go_upto_region 14 with (fail)
           go_cut [110] (fun v110 wc => ∃ (kq : Nat) (x110_72 : Bool), v110 = .bool x110_72 ∧ Aside0 (laws_FnQuotient.j2 kq t197 x12_2 x110_72 ft177 ft179 fr185_0 fr185_1 = some r) ∧ Aside0 (kq ≤ k2) ∧ Aside0 (Kd.R k80 80 wc w.heap.size (fun _ => True) v198 t197) ∧ Aside0 (wc.heap[gb180]? = some (.cells #[.float .f64 b_ft177, .float .f64 b_ft179] 34 (0, 0))) ∧ Aside0 (wc.heap[gb186]? = some (.cells #[.float .f64 b_fr185_0, .float .f64 b_fr185_1] 34 (0, 0))) ∧ Aside0 (Below w.heap.size w wc))
           case first =>
            have H := HC73.out
            clear HC73
            by_cases c74 : 0 ≤ x12_2
            ·rw [if_pos c74] at H
             have c74b0 : decide (0 ≤ x12_2) = true := decide_eq_true c74
             clear c74
             (first | rw [c74b0] | (simp only [i64_w, i32_w]; rw [c74b0]) | skip)
             by_cases c75 : x12_2 < (t197.length : Int)
             ·rw [if_pos c75] at H
              have c75b0 : decide (x12_2 < (t197.length : Int)) = true := decide_eq_true c75
              clear c75
              obtain ⟨fr202_0, hfr202_0⟩ : ∃ y_ : Fl, y_ = ((rd_T80 t197 x12_2).f0) := ⟨_, rfl⟩
              replace H : (if 0 ≤ (Int.tmod x12_2 4) then (if (Int.tmod x12_2 4) < (t197.length : Int) then (if (fcmp .neq .f32 fr202_0 ((rd_T80 t197 (Int.tmod x12_2 4)).f0)) = true then (laws_FnQuotient.j2 k2 t197 x12_2 true ft177 ft179 fr185_0 fr185_1) else (laws_FnQuotient.j2 k2 t197 x12_2 (fcmp .neq .f32 ((rd_T80 t197 x12_2).f1) ((rd_T80 t197 (Int.tmod x12_2 4)).f1)) ft177 ft179 fr185_0 fr185_1)) else (none)) else (none)) = some r := by first | (rw [hfr202_0]; with_reducible exact H) | (have H2_ := (Option.bind_some _ _).symm.trans H; rw [hfr202_0]; with_reducible exact H2_) | (have H2_ := (Option.bind_some _ _).symm.trans H; with_reducible exact H2_) | with_reducible exact H | (rw [hfr202_0]; exact H) | exact H
              have Nfr202_0 := Aside0.mk hfr202_0
              clear hfr202_0
              obtain ⟨fr202_1, hfr202_1⟩ : ∃ y_ : Fl, y_ = ((rd_T80 t197 x12_2).f1) := ⟨_, rfl⟩
              replace H : (if 0 ≤ (Int.tmod x12_2 4) then (if (Int.tmod x12_2 4) < (t197.length : Int) then (if (fcmp .neq .f32 fr202_0 ((rd_T80 t197 (Int.tmod x12_2 4)).f0)) = true then (laws_FnQuotient.j2 k2 t197 x12_2 true ft177 ft179 fr185_0 fr185_1) else (laws_FnQuotient.j2 k2 t197 x12_2 (fcmp .neq .f32 fr202_1 ((rd_T80 t197 (Int.tmod x12_2 4)).f1)) ft177 ft179 fr185_0 fr185_1)) else (none)) else (none)) = some r := by first | (rw [hfr202_1]; with_reducible exact H) | (have H2_ := (Option.bind_some _ _).symm.trans H; rw [hfr202_1]; with_reducible exact H2_) | (have H2_ := (Option.bind_some _ _).symm.trans H; with_reducible exact H2_) | with_reducible exact H | (rw [hfr202_1]; exact H) | exact H
              have Nfr202_1 := Aside0.mk hfr202_1
              clear hfr202_1
              obtain ⟨ji76, hji76⟩ : ∃ j_ : Int, (Int.tmod x12_2 4) = j_ := ⟨_, rfl⟩
              replace H : (if 0 ≤ (ji76) then (if (ji76) < (t197.length : Int) then (if (fcmp .neq .f32 fr202_0 ((rd_T80 t197 (ji76)).f0)) = true then (laws_FnQuotient.j2 k2 t197 x12_2 true ft177 ft179 fr185_0 fr185_1) else (laws_FnQuotient.j2 k2 t197 x12_2 (fcmp .neq .f32 fr202_1 ((rd_T80 t197 (ji76)).f1)) ft177 ft179 fr185_0 fr185_1)) else (none)) else (none)) = some r := by first | (rw [hji76] at H; exact H) | (simp only [hji76] at H ⊢; exact H)
              by_cases c77 : 0 ≤ (ji76)
              ·rw [if_pos c77] at H
               have c77b0 : decide (0 ≤ (ji76)) = true := decide_eq_true c77
               clear c77
               by_cases c78 : (ji76) < (t197.length : Int)
               ·rw [if_pos c78] at H
                have c78b0 : decide ((ji76) < (t197.length : Int)) = true := decide_eq_true c78
                clear c78
                obtain ⟨fr203_0, hfr203_0⟩ : ∃ y_ : Fl, y_ = ((rd_T80 t197 (ji76)).f0) := ⟨_, rfl⟩
                replace H : (if (fcmp .neq .f32 fr202_0 fr203_0) = true then (laws_FnQuotient.j2 k2 t197 x12_2 true ft177 ft179 fr185_0 fr185_1) else (laws_FnQuotient.j2 k2 t197 x12_2 (fcmp .neq .f32 fr202_1 ((rd_T80 t197 (ji76)).f1)) ft177 ft179 fr185_0 fr185_1)) = some r := by first | (rw [hfr203_0]; with_reducible exact H) | (have H2_ := (Option.bind_some _ _).symm.trans H; rw [hfr203_0]; with_reducible exact H2_) | (have H2_ := (Option.bind_some _ _).symm.trans H; with_reducible exact H2_) | with_reducible exact H | (rw [hfr203_0]; exact H) | exact H
                have Nfr203_0 := Aside0.mk hfr203_0
                clear hfr203_0
                obtain ⟨fr203_1, hfr203_1⟩ : ∃ y_ : Fl, y_ = ((rd_T80 t197 (ji76)).f1) := ⟨_, rfl⟩
                replace H : (if (fcmp .neq .f32 fr202_0 fr203_0) = true then (laws_FnQuotient.j2 k2 t197 x12_2 true ft177 ft179 fr185_0 fr185_1) else (laws_FnQuotient.j2 k2 t197 x12_2 (fcmp .neq .f32 fr202_1 fr203_1) ft177 ft179 fr185_0 fr185_1)) = some r := by first | (rw [hfr203_1]; with_reducible exact H) | (have H2_ := (Option.bind_some _ _).symm.trans H; rw [hfr203_1]; with_reducible exact H2_) | (have H2_ := (Option.bind_some _ _).symm.trans H; with_reducible exact H2_) | with_reducible exact H | (rw [hfr203_1]; exact H) | exact H
                have Nfr203_1 := Aside0.mk hfr203_1
                clear hfr203_1
                by_cases c79 : (fcmp .neq .f32 fr202_0 fr203_0) = true
                ·rw [if_pos c79] at H
                 have c79b0 : (fcmp .neq .f32 fr202_0 fr203_0) = true := c79
                 clear c79
                 have H' := Aside0.mk H
                 clear H
                 try go_wp2
                 have n0_ := Aside0.mk (Kd.R_drew HO_10.out)
                 have n1_ := Aside0.mk (blk_drew BK180.out)
                 have n2_ := Aside0.mk (blk_drew BK186.out)
                 have n3_ := Aside0.mk (below_drew1 HB.out)
                 clear HO_10
                 clear BK180
                 clear BK186
                 clear HB
                 have HO_10 := n0_
                 have BK180 := n1_
                 have BK186 := n2_
                 have HB := n3_
                 clear n0_ n1_ n2_ n3_
                 obtain ⟨Ao81, co81, eo81⟩ := Kd.R_slice HO_10.out
                 (first | subst eo81 | (injection eo81 with f1_ f2_ f3_; have f4_ := f1_.symm; have f5_ := f3_.symm; clear f1_ f2_ f3_; subst f4_; subst f5_))
                 have p202 : 0 ≤ (x12_2 : Int) := of_decide_eq_true (by first | (with_reducible assumption) | assumption)
                 have q202 : x12_2 < (t197.length : Int) := of_decide_eq_true (by first | (with_reducible assumption) | assumption)
                 obtain ⟨ad202, b_fr202_0, b_fr202_1, e202, hx202_0, hx202_1, hF202_0, hF202_1⟩ := at_T80 (Kd.R_reads' HO_10.out).2.2 x12_2 p202 q202
                 have hF_fr202_0 := hF202_0.trans Nfr202_0.out.symm
                 clear hF202_0
                 have hF_fr202_1 := hF202_1.trans Nfr202_1.out.symm
                 clear hF202_1
                 cases e202
                 replace p202 := eq_true p202
                 replace q202 := eq_true q202
                 have p203 : 0 ≤ ((ji76) : Int) := of_decide_eq_true (by first | (with_reducible assumption) | assumption)
                 have q203 : (ji76) < (t197.length : Int) := of_decide_eq_true (by first | (with_reducible assumption) | assumption)
                 obtain ⟨ad203, b_fr203_0, b_fr203_1, e203, hx203_0, hx203_1, hF203_0, hF203_1⟩ := at_T80 (Kd.R_reads' HO_10.out).2.2 (ji76) p203 q203
                 have hF_fr203_0 := hF203_0.trans Nfr203_0.out.symm
                 clear hF203_0
                 have hF_fr203_1 := hF203_1.trans Nfr203_1.out.symm
                 clear hF203_1
                 obtain rfl : ad202 = ad203 := (by injection e203)
                 replace p203 := eq_true p203
                 replace q203 := eq_true q203
                 refine start_ (n := 26) (S := fun w' => w'.cell? (ad202.add ((x12_2).toNat * 2)) = some (.float .f32 b_fr202_0) ∧ w'.cell? ⟨(ad202.add ((x12_2).toNat * 2)).block, (ad202.add ((x12_2).toNat * 2)).off + 1, none⟩ = some (.float .f32 b_fr202_1) ∧ w'.cell? (ad202.add (((ji76)).toNat * 2)) = some (.float .f32 b_fr203_0) ∧ w'.cell? ⟨(ad202.add (((ji76)).toNat * 2)).block, (ad202.add (((ji76)).toNat * 2)).off + 1, none⟩ = some (.float .f32 b_fr203_1)) (ds := []) #[false, false, false, false, false, false, false, false, false, false, false, false, false, false, false, false, false, false, false, false, false, false, false, false, false, false] (by kernel_rfl) rfl rfl ⟨hx202_0, hx202_1, hx203_0, hx203_1⟩ (fun hHeld => ?_); refine with_tabW laws_FnQuotient.tab14 laws_FnQuotient.bits14 (fun HT_ HW_ => ?_)
                 generalize wr.drew = w80 at HO_10 BK180 BK186 HB hx202_0 hx202_1 hx203_0 hx203_1 hHeld ⊢
                 refine pure_ (i := 0) (N := some 85) (v := ?_) (a' := ?_) #[true, false, false, false, false, false, false, false, false, false, false, false, false, false, false, false, false, false, false, false, false, false, false, false, false, false] rfl rfl (any_of HT_.out (by kernel_rfl)) (fun _ _ _ h => h) (Or.inl ⟨by rfl, ?_⟩) ?_ ?_; rotate_left
                 ·intro w'
                  go_simp; with_reducible rfl
                 rotate_left
                 ·simp only [Act.put, qa_, qb_, qc_, i64_w, i32_w]
                  rfl
                 refine pure_ (i := 1) (N := some 86) (v := ?_) (a' := ?_) #[true, true, false, false, false, false, false, false, false, false, false, false, false, false, false, false, false, false, false, false, false, false, false, false, false, false] rfl rfl (any_of HT_.out (by kernel_rfl)) (fun _ _ _ h => h) (Or.inl ⟨by rfl, ?_⟩) ?_ ?_; rotate_left
                 ·intro w'
                  go_simp; with_reducible rfl
                 rotate_left
                 ·simp only [Act.put, qa_, qb_, qc_, i64_w, i32_w]
                  rfl
                 refine pure_ (i := 2) (N := some 87) (v := ?_) (a' := ?_) #[true, true, true, false, false, false, false, false, false, false, false, false, false, false, false, false, false, false, false, false, false, false, false, false, false, false] rfl rfl (any_of HT_.out (by kernel_rfl)) (fun _ _ _ h => h) (Or.inl ⟨by rfl, ?_⟩) ?_ ?_; rotate_left
                 ·intro w'
                  go_simp; with_reducible rfl
                 rotate_left
                 ·simp only [Act.put, qa_, qb_, qc_, i64_w, i32_w]
                  rfl
                 refine pure_ (i := 3) (N := some 88) (v := ?_) (a' := ?_) #[true, true, true, true, false, false, false, false, false, false, false, false, false, false, false, false, false, false, false, false, false, false, false, false, false, false] rfl rfl (any_of HT_.out (by kernel_rfl)) (fun _ _ _ h => h) (Or.inl ⟨by rfl, ?_⟩) ?_ ?_; rotate_left
                 ·intro w'
                  go_simp; with_reducible rfl
                 rotate_left
                 ·simp only [Act.put, qa_, qb_, qc_, i64_w, i32_w]
                  rfl
                 refine pure_ (i := 5) (N := some 90) (v := ?_) (a' := ?_) #[true, true, true, true, false, true, false, false, false, false, false, false, false, false, false, false, false, false, false, false, false, false, false, false, false, false] rfl rfl (any_of HT_.out (by kernel_rfl)) (fun _ _ _ h => h) (Or.inl ⟨by rfl, ?_⟩) ?_ ?_; rotate_left
                 ·intro w'
                  go_simp; with_reducible rfl
                 rotate_left
                 ·simp only [Act.put, qa_, qb_, qc_, i64_w, i32_w]
                  rfl
                 refine pure_ (i := 6) (N := some 91) (v := ?_) (a' := ?_) #[true, true, true, true, false, true, true, false, false, false, false, false, false, false, false, false, false, false, false, false, false, false, false, false, false, false] rfl rfl (any_of HT_.out (by kernel_rfl)) (fun _ _ _ h => h) (Or.inl ⟨by rfl, ?_⟩) ?_ ?_; rotate_left
                 ·intro w'
                  go_simp; with_reducible rfl
                 rotate_left
                 ·simp only [Act.put, qa_, qb_, qc_, i64_w, i32_w]
                  rfl
                 refine pure_ (i := 7) (N := some 92) (v := ?_) (a' := ?_) #[true, true, true, true, false, true, true, true, false, false, false, false, false, false, false, false, false, false, false, false, false, false, false, false, false, false] rfl rfl (any_of HT_.out (by kernel_rfl)) (fun _ _ _ h => h) (Or.inl ⟨by rfl, ?_⟩) ?_ ?_; rotate_left
                 ·intro w'
                  go_simp; with_reducible rfl
                 rotate_left
                 ·simp only [Act.put, qa_, qb_, qc_, i64_w, i32_w]
                  rfl
                 refine pure_ (i := 8) (N := some 93) (v := ?_) (a' := ?_) #[true, true, true, true, false, true, true, true, true, false, false, false, false, false, false, false, false, false, false, false, false, false, false, false, false, false] rfl rfl (any_of HT_.out (by kernel_rfl)) (fun _ _ _ h => h) (Or.inl ⟨by rfl, ?_⟩) ?_ ?_; rotate_left
                 ·intro w'
                  go_simp; with_reducible rfl
                 rotate_left
                 ·simp only [Act.put, qa_, qb_, qc_, i64_w, i32_w]
                  rfl
                 refine pure_ (i := 9) (N := some 94) (v := ?_) (a' := ?_) #[true, true, true, true, false, true, true, true, true, true, false, false, false, false, false, false, false, false, false, false, false, false, false, false, false, false] rfl rfl (any_of HT_.out (by kernel_rfl)) (fun _ _ _ h => h) (Or.inl ⟨by rfl, ?_⟩) ?_ ?_; rotate_left
                 ·intro w'
                  go_simp; with_reducible rfl
                 rotate_left
                 ·simp only [Act.put, qa_, qb_, qc_, i64_w, i32_w]
                  rfl
                 refine take_ (i := 4) (N := some 89) (v := ?_) (a' := ?_) #[true, true, true, true, true, true, true, true, true, true, false, false, false, false, false, false, false, false, false, false, false, false, false, false, false, false] rfl rfl (take_ofW HT_.out HW_.out (by kernel_rfl)) (fun _ _ _ h => h) (Or.inl ⟨by rfl, ?_⟩) hHeld ?_ ?_; rotate_left
                 ·rintro w' ⟨s0, s1, s2, s3⟩; go_simp; with_reducible rfl
                 rotate_left
                 ·simp only [Act.put, qa_, qb_, qc_, i64_w, i32_w]
                  rfl
                 refine take_ (i := 10) (N := some 95) (v := ?_) (a' := ?_) #[true, true, true, true, true, true, true, true, true, true, true, false, false, false, false, false, false, false, false, false, false, false, false, false, false, false] rfl rfl (take_ofW HT_.out HW_.out (by kernel_rfl)) (fun _ _ _ h => h) (Or.inl ⟨by rfl, ?_⟩) hHeld ?_ ?_; rotate_left
                 ·rintro w' ⟨s0, s1, s2, s3⟩; go_simp; with_reducible rfl
                 rotate_left
                 ·simp only [Act.put, qa_, qb_, qc_, i64_w, i32_w]
                  rfl
                 refine pure_ (i := 11) (N := some 96) (v := ?_) (a' := ?_) #[true, true, true, true, true, true, true, true, true, true, true, true, false, false, false, false, false, false, false, false, false, false, false, false, false, false] rfl rfl (any_of HT_.out (by kernel_rfl)) (fun _ _ _ h => h) (Or.inl ⟨by rfl, ?_⟩) ?_ ?_; rotate_left
                 ·intro w'
                  go_simp; with_reducible rfl
                 rotate_left
                 ·simp only [Act.put, qa_, qb_, qc_, i64_w, i32_w]
                  rfl
                 refine pure_ (i := 12) (N := some 97) (v := ?_) (a' := ?_) #[true, true, true, true, true, true, true, true, true, true, true, true, true, false, false, false, false, false, false, false, false, false, false, false, false, false] rfl rfl (any_of HT_.out (by kernel_rfl)) (fun _ _ _ h => h) (Or.inl ⟨by rfl, ?_⟩) ?_ ?_; rotate_left
                 ·intro w'
                  go_simp; with_reducible rfl
                 rotate_left
                 ·simp only [Act.put, qa_, qb_, qc_, i64_w, i32_w]
                  rfl
                 refine pure_ (i := 13) (N := some 98) (v := undef) (a' := ?_) #[true, true, true, true, true, true, true, true, true, true, true, true, true, true, false, false, false, false, false, false, false, false, false, false, false, false] rfl rfl (any_of HT_.out (by kernel_rfl)) (fun _ _ _ h => h) (Or.inr ⟨by rfl, rfl⟩) ?_ ?_; rotate_left
                 ·simp only [Act.put, qa_, qb_, qc_, i64_w, i32_w]
                  rfl
                 refine pure_ (i := 14) (N := some 99) (v := undef) (a' := ?_) #[true, true, true, true, true, true, true, true, true, true, true, true, true, true, true, false, false, false, false, false, false, false, false, false, false, false] rfl rfl (any_of HT_.out (by kernel_rfl)) (fun _ _ _ h => h) (Or.inr ⟨by rfl, rfl⟩) ?_ ?_; rotate_left
                 ·simp only [Act.put, qa_, qb_, qc_, i64_w, i32_w]
                  rfl
                 refine pure_ (i := 15) (N := some 100) (v := undef) (a' := ?_) #[true, true, true, true, true, true, true, true, true, true, true, true, true, true, true, true, false, false, false, false, false, false, false, false, false, false] rfl rfl (any_of HT_.out (by kernel_rfl)) (fun _ _ _ h => h) (Or.inr ⟨by rfl, rfl⟩) ?_ ?_; rotate_left
                 ·simp only [Act.put, qa_, qb_, qc_, i64_w, i32_w]
                  rfl
                 refine pure_ (i := 16) (N := some 101) (v := undef) (a' := ?_) #[true, true, true, true, true, true, true, true, true, true, true, true, true, true, true, true, true, false, false, false, false, false, false, false, false, false] rfl rfl (any_of HT_.out (by kernel_rfl)) (fun _ _ _ h => h) (Or.inr ⟨by rfl, rfl⟩) ?_ ?_; rotate_left
                 ·simp only [Act.put, qa_, qb_, qc_, i64_w, i32_w]
                  rfl
                 refine pure_ (i := 17) (N := some 102) (v := undef) (a' := ?_) #[true, true, true, true, true, true, true, true, true, true, true, true, true, true, true, true, true, true, false, false, false, false, false, false, false, false] rfl rfl (any_of HT_.out (by kernel_rfl)) (fun _ _ _ h => h) (Or.inr ⟨by rfl, rfl⟩) ?_ ?_; rotate_left
                 ·simp only [Act.put, qa_, qb_, qc_, i64_w, i32_w]
                  rfl
                 refine pure_ (i := 18) (N := some 103) (v := undef) (a' := ?_) #[true, true, true, true, true, true, true, true, true, true, true, true, true, true, true, true, true, true, true, false, false, false, false, false, false, false] rfl rfl (any_of HT_.out (by kernel_rfl)) (fun _ _ _ h => h) (Or.inr ⟨by rfl, rfl⟩) ?_ ?_; rotate_left
                 ·simp only [Act.put, qa_, qb_, qc_, i64_w, i32_w]
                  rfl
                 refine pure_ (i := 19) (N := some 104) (v := undef) (a' := ?_) #[true, true, true, true, true, true, true, true, true, true, true, true, true, true, true, true, true, true, true, true, false, false, false, false, false, false] rfl rfl (any_of HT_.out (by kernel_rfl)) (fun _ _ _ h => h) (Or.inr ⟨by rfl, rfl⟩) ?_ ?_; rotate_left
                 ·simp only [Act.put, qa_, qb_, qc_, i64_w, i32_w]
                  rfl
                 refine pure_ (i := 20) (N := some 105) (v := undef) (a' := ?_) #[true, true, true, true, true, true, true, true, true, true, true, true, true, true, true, true, true, true, true, true, true, false, false, false, false, false] rfl rfl (any_of HT_.out (by kernel_rfl)) (fun _ _ _ h => h) (Or.inr ⟨by rfl, rfl⟩) ?_ ?_; rotate_left
                 ·simp only [Act.put, qa_, qb_, qc_, i64_w, i32_w]
                  rfl
                 refine pure_ (i := 21) (N := some 106) (v := undef) (a' := ?_) #[true, true, true, true, true, true, true, true, true, true, true, true, true, true, true, true, true, true, true, true, true, true, false, false, false, false] rfl rfl (any_of HT_.out (by kernel_rfl)) (fun _ _ _ h => h) (Or.inr ⟨by rfl, rfl⟩) ?_ ?_; rotate_left
                 ·simp only [Act.put, qa_, qb_, qc_, i64_w, i32_w]
                  rfl
                 refine pure_ (i := 22) (N := some 107) (v := undef) (a' := ?_) #[true, true, true, true, true, true, true, true, true, true, true, true, true, true, true, true, true, true, true, true, true, true, true, false, false, false] rfl rfl (any_of HT_.out (by kernel_rfl)) (fun _ _ _ h => h) (Or.inr ⟨by rfl, rfl⟩) ?_ ?_; rotate_left
                 ·simp only [Act.put, qa_, qb_, qc_, i64_w, i32_w]
                  rfl
                 refine pure_ (i := 23) (N := some 108) (v := undef) (a' := ?_) #[true, true, true, true, true, true, true, true, true, true, true, true, true, true, true, true, true, true, true, true, true, true, true, true, false, false] rfl rfl (any_of HT_.out (by kernel_rfl)) (fun _ _ _ h => h) (Or.inr ⟨by rfl, rfl⟩) ?_ ?_; rotate_left
                 ·simp only [Act.put, qa_, qb_, qc_, i64_w, i32_w]
                  rfl
                 refine pure_ (i := 24) (N := some 109) (v := undef) (a' := ?_) #[true, true, true, true, true, true, true, true, true, true, true, true, true, true, true, true, true, true, true, true, true, true, true, true, true, false] rfl rfl (any_of HT_.out (by kernel_rfl)) (fun _ _ _ h => h) (Or.inr ⟨by rfl, rfl⟩) ?_ ?_; rotate_left
                 ·simp only [Act.put, qa_, qb_, qc_, i64_w, i32_w]
                  rfl
                 refine pure_ (i := 25) (N := some 110) (v := ?_) (a' := ?_) #[true, true, true, true, true, true, true, true, true, true, true, true, true, true, true, true, true, true, true, true, true, true, true, true, true, true] rfl rfl (any_of HT_.out (by kernel_rfl)) (fun _ _ _ h => h) (Or.inl ⟨by rfl, ?_⟩) ?_ ?_; rotate_left
                 ·intro w'
                  go_simp; with_reducible rfl
                 rotate_left
                 ·simp only [Act.put, qa_, qb_, qc_, i64_w, i32_w]
                  rfl
                 refine done_ (done_of HT_.out (by kernel_rfl)) ?_
                 try go_wp2
                 go_meet
                 case rel => exact ⟨_, (true), (by first | rfl | (simp; done) | (simp [*]; done)), H', ⟨by have := HJ14.out; have := HK2.out; first | omega | exact Nat.le_refl _⟩, ⟨by (with_reducible repeat (first | apply Kd.R_alloc | apply Kd.R_drewN | apply Kd.R_drew)); exact HO_10.out⟩, ⟨by (with_reducible repeat (first | refine blk_drewN ?_ _ | refine blk_drew ?_ | refine blk_alloc ?_ _)); exact BK180.out⟩, ⟨by (with_reducible repeat (first | refine blk_drewN ?_ _ | refine blk_drew ?_ | refine blk_alloc ?_ _)); exact BK186.out⟩, ⟨by repeat (first | (with_reducible first | exact HB.out | apply below_alloc | apply pw_below_drewN | apply below_drew1) | exact HB.out)⟩⟩
                ·rw [if_neg c79] at H
                 have c79b0 : (fcmp .neq .f32 fr202_0 fr203_0) = false := by simpa using c79
                 clear c79
                 have H' := Aside0.mk H
                 clear H
                 try go_wp2
                 have n0_ := Aside0.mk (Kd.R_drew HO_10.out)
                 have n1_ := Aside0.mk (blk_drew BK180.out)
                 have n2_ := Aside0.mk (blk_drew BK186.out)
                 have n3_ := Aside0.mk (below_drew1 HB.out)
                 clear HO_10
                 clear BK180
                 clear BK186
                 clear HB
                 have HO_10 := n0_
                 have BK180 := n1_
                 have BK186 := n2_
                 have HB := n3_
                 clear n0_ n1_ n2_ n3_
                 obtain ⟨Ao83, co83, eo83⟩ := Kd.R_slice HO_10.out
                 (first | subst eo83 | (injection eo83 with f1_ f2_ f3_; have f4_ := f1_.symm; have f5_ := f3_.symm; clear f1_ f2_ f3_; subst f4_; subst f5_))
                 have p202 : 0 ≤ (x12_2 : Int) := of_decide_eq_true (by first | (with_reducible assumption) | assumption)
                 have q202 : x12_2 < (t197.length : Int) := of_decide_eq_true (by first | (with_reducible assumption) | assumption)
                 obtain ⟨ad202, b_fr202_0, b_fr202_1, e202, hx202_0, hx202_1, hF202_0, hF202_1⟩ := at_T80 (Kd.R_reads' HO_10.out).2.2 x12_2 p202 q202
                 have hF_fr202_0 := hF202_0.trans Nfr202_0.out.symm
                 clear hF202_0
                 have hF_fr202_1 := hF202_1.trans Nfr202_1.out.symm
                 clear hF202_1
                 cases e202
                 replace p202 := eq_true p202
                 replace q202 := eq_true q202
                 have p203 : 0 ≤ ((ji76) : Int) := of_decide_eq_true (by first | (with_reducible assumption) | assumption)
                 have q203 : (ji76) < (t197.length : Int) := of_decide_eq_true (by first | (with_reducible assumption) | assumption)
                 obtain ⟨ad203, b_fr203_0, b_fr203_1, e203, hx203_0, hx203_1, hF203_0, hF203_1⟩ := at_T80 (Kd.R_reads' HO_10.out).2.2 (ji76) p203 q203
                 have hF_fr203_0 := hF203_0.trans Nfr203_0.out.symm
                 clear hF203_0
                 have hF_fr203_1 := hF203_1.trans Nfr203_1.out.symm
                 clear hF203_1
                 obtain rfl : ad202 = ad203 := (by injection e203)
                 replace p203 := eq_true p203
                 replace q203 := eq_true q203
                 have p204 : 0 ≤ (x12_2 : Int) := of_decide_eq_true (by first | (with_reducible assumption) | assumption)
                 have q204 : x12_2 < (t197.length : Int) := of_decide_eq_true (by first | (with_reducible assumption) | assumption)
                 obtain ⟨ad204, b_gr204_0, b_gr204_1, e204, hx204_0, hx204_1, hF204_0, hF204_1⟩ := at_T80 (Kd.R_reads' HO_10.out).2.2 x12_2 p204 q204
                 clear hF204_0
                 clear hF204_1
                 obtain rfl : ad202 = ad204 := (by injection e204)
                 have ef_ := Option.some.inj (hx202_0.symm.trans hx204_0)
                 injection ef_ with _ ef_
                 subst ef_
                 have ef_ := Option.some.inj (hx202_1.symm.trans hx204_1)
                 injection ef_ with _ ef_
                 subst ef_
                 replace p204 := eq_true p204
                 replace q204 := eq_true q204
                 have p205 : 0 ≤ ((ji76) : Int) := of_decide_eq_true (by first | (with_reducible assumption) | assumption)
                 have q205 : (ji76) < (t197.length : Int) := of_decide_eq_true (by first | (with_reducible assumption) | assumption)
                 obtain ⟨ad205, b_gr205_0, b_gr205_1, e205, hx205_0, hx205_1, hF205_0, hF205_1⟩ := at_T80 (Kd.R_reads' HO_10.out).2.2 (ji76) p205 q205
                 clear hF205_0
                 clear hF205_1
                 obtain rfl : ad202 = ad205 := (by injection e205)
                 have ef_ := Option.some.inj (hx203_0.symm.trans hx205_0)
                 injection ef_ with _ ef_
                 subst ef_
                 have ef_ := Option.some.inj (hx203_1.symm.trans hx205_1)
                 injection ef_ with _ ef_
                 subst ef_
                 replace p205 := eq_true p205
                 replace q205 := eq_true q205
                 refine start_ (n := 26) (S := fun w' => w'.cell? (ad202.add ((x12_2).toNat * 2)) = some (.float .f32 b_fr202_0) ∧ w'.cell? ⟨(ad202.add ((x12_2).toNat * 2)).block, (ad202.add ((x12_2).toNat * 2)).off + 1, none⟩ = some (.float .f32 b_fr202_1) ∧ w'.cell? (ad202.add (((ji76)).toNat * 2)) = some (.float .f32 b_fr203_0) ∧ w'.cell? ⟨(ad202.add (((ji76)).toNat * 2)).block, (ad202.add (((ji76)).toNat * 2)).off + 1, none⟩ = some (.float .f32 b_fr203_1) ∧ w'.cell? (ad202.add ((x12_2).toNat * 2)) = some (.float .f32 b_fr202_0) ∧ w'.cell? ⟨(ad202.add ((x12_2).toNat * 2)).block, (ad202.add ((x12_2).toNat * 2)).off + 1, none⟩ = some (.float .f32 b_fr202_1) ∧ w'.cell? (ad202.add (((ji76)).toNat * 2)) = some (.float .f32 b_fr203_0) ∧ w'.cell? ⟨(ad202.add (((ji76)).toNat * 2)).block, (ad202.add (((ji76)).toNat * 2)).off + 1, none⟩ = some (.float .f32 b_fr203_1)) (ds := []) #[false, false, false, false, false, false, false, false, false, false, false, false, false, false, false, false, false, false, false, false, false, false, false, false, false, false] (by kernel_rfl) rfl rfl ⟨hx202_0, hx202_1, hx203_0, hx203_1, hx204_0, hx204_1, hx205_0, hx205_1⟩ (fun hHeld => ?_); refine with_tabW laws_FnQuotient.tab14 laws_FnQuotient.bits14 (fun HT_ HW_ => ?_)
                 generalize wr.drew = w82 at HO_10 BK180 BK186 HB hx202_0 hx202_1 hx203_0 hx203_1 hx204_0 hx204_1 hx205_0 hx205_1 hHeld ⊢
                 refine pure_ (i := 0) (N := some 85) (v := ?_) (a' := ?_) #[true, false, false, false, false, false, false, false, false, false, false, false, false, false, false, false, false, false, false, false, false, false, false, false, false, false] rfl rfl (any_of HT_.out (by kernel_rfl)) (fun _ _ _ h => h) (Or.inl ⟨by rfl, ?_⟩) ?_ ?_; rotate_left
                 ·intro w'
                  go_simp; with_reducible rfl
                 rotate_left
                 ·simp only [Act.put, qa_, qb_, qc_, i64_w, i32_w]
                  rfl
                 refine pure_ (i := 1) (N := some 86) (v := ?_) (a' := ?_) #[true, true, false, false, false, false, false, false, false, false, false, false, false, false, false, false, false, false, false, false, false, false, false, false, false, false] rfl rfl (any_of HT_.out (by kernel_rfl)) (fun _ _ _ h => h) (Or.inl ⟨by rfl, ?_⟩) ?_ ?_; rotate_left
                 ·intro w'
                  go_simp; with_reducible rfl
                 rotate_left
                 ·simp only [Act.put, qa_, qb_, qc_, i64_w, i32_w]
                  rfl
                 refine pure_ (i := 2) (N := some 87) (v := ?_) (a' := ?_) #[true, true, true, false, false, false, false, false, false, false, false, false, false, false, false, false, false, false, false, false, false, false, false, false, false, false] rfl rfl (any_of HT_.out (by kernel_rfl)) (fun _ _ _ h => h) (Or.inl ⟨by rfl, ?_⟩) ?_ ?_; rotate_left
                 ·intro w'
                  go_simp; with_reducible rfl
                 rotate_left
                 ·simp only [Act.put, qa_, qb_, qc_, i64_w, i32_w]
                  rfl
                 refine pure_ (i := 3) (N := some 88) (v := ?_) (a' := ?_) #[true, true, true, true, false, false, false, false, false, false, false, false, false, false, false, false, false, false, false, false, false, false, false, false, false, false] rfl rfl (any_of HT_.out (by kernel_rfl)) (fun _ _ _ h => h) (Or.inl ⟨by rfl, ?_⟩) ?_ ?_; rotate_left
                 ·intro w'
                  go_simp; with_reducible rfl
                 rotate_left
                 ·simp only [Act.put, qa_, qb_, qc_, i64_w, i32_w]
                  rfl
                 refine pure_ (i := 5) (N := some 90) (v := ?_) (a' := ?_) #[true, true, true, true, false, true, false, false, false, false, false, false, false, false, false, false, false, false, false, false, false, false, false, false, false, false] rfl rfl (any_of HT_.out (by kernel_rfl)) (fun _ _ _ h => h) (Or.inl ⟨by rfl, ?_⟩) ?_ ?_; rotate_left
                 ·intro w'
                  go_simp; with_reducible rfl
                 rotate_left
                 ·simp only [Act.put, qa_, qb_, qc_, i64_w, i32_w]
                  rfl
                 refine pure_ (i := 6) (N := some 91) (v := ?_) (a' := ?_) #[true, true, true, true, false, true, true, false, false, false, false, false, false, false, false, false, false, false, false, false, false, false, false, false, false, false] rfl rfl (any_of HT_.out (by kernel_rfl)) (fun _ _ _ h => h) (Or.inl ⟨by rfl, ?_⟩) ?_ ?_; rotate_left
                 ·intro w'
                  go_simp; with_reducible rfl
                 rotate_left
                 ·simp only [Act.put, qa_, qb_, qc_, i64_w, i32_w]
                  rfl
                 refine pure_ (i := 7) (N := some 92) (v := ?_) (a' := ?_) #[true, true, true, true, false, true, true, true, false, false, false, false, false, false, false, false, false, false, false, false, false, false, false, false, false, false] rfl rfl (any_of HT_.out (by kernel_rfl)) (fun _ _ _ h => h) (Or.inl ⟨by rfl, ?_⟩) ?_ ?_; rotate_left
                 ·intro w'
                  go_simp; with_reducible rfl
                 rotate_left
                 ·simp only [Act.put, qa_, qb_, qc_, i64_w, i32_w]
                  rfl
                 refine pure_ (i := 8) (N := some 93) (v := ?_) (a' := ?_) #[true, true, true, true, false, true, true, true, true, false, false, false, false, false, false, false, false, false, false, false, false, false, false, false, false, false] rfl rfl (any_of HT_.out (by kernel_rfl)) (fun _ _ _ h => h) (Or.inl ⟨by rfl, ?_⟩) ?_ ?_; rotate_left
                 ·intro w'
                  go_simp; with_reducible rfl
                 rotate_left
                 ·simp only [Act.put, qa_, qb_, qc_, i64_w, i32_w]
                  rfl
                 refine pure_ (i := 9) (N := some 94) (v := ?_) (a' := ?_) #[true, true, true, true, false, true, true, true, true, true, false, false, false, false, false, false, false, false, false, false, false, false, false, false, false, false] rfl rfl (any_of HT_.out (by kernel_rfl)) (fun _ _ _ h => h) (Or.inl ⟨by rfl, ?_⟩) ?_ ?_; rotate_left
                 ·intro w'
                  go_simp; with_reducible rfl
                 rotate_left
                 ·simp only [Act.put, qa_, qb_, qc_, i64_w, i32_w]
                  rfl
                 refine take_ (i := 4) (N := some 89) (v := ?_) (a' := ?_) #[true, true, true, true, true, true, true, true, true, true, false, false, false, false, false, false, false, false, false, false, false, false, false, false, false, false] rfl rfl (take_ofW HT_.out HW_.out (by kernel_rfl)) (fun _ _ _ h => h) (Or.inl ⟨by rfl, ?_⟩) hHeld ?_ ?_; rotate_left
                 ·rintro w' ⟨s0, s1, s2, s3, s4, s5, s6, s7⟩; go_simp; with_reducible rfl
                 rotate_left
                 ·simp only [Act.put, qa_, qb_, qc_, i64_w, i32_w]
                  rfl
                 refine take_ (i := 10) (N := some 95) (v := ?_) (a' := ?_) #[true, true, true, true, true, true, true, true, true, true, true, false, false, false, false, false, false, false, false, false, false, false, false, false, false, false] rfl rfl (take_ofW HT_.out HW_.out (by kernel_rfl)) (fun _ _ _ h => h) (Or.inl ⟨by rfl, ?_⟩) hHeld ?_ ?_; rotate_left
                 ·rintro w' ⟨s0, s1, s2, s3, s4, s5, s6, s7⟩; go_simp; with_reducible rfl
                 rotate_left
                 ·simp only [Act.put, qa_, qb_, qc_, i64_w, i32_w]
                  rfl
                 refine pure_ (i := 11) (N := some 96) (v := ?_) (a' := ?_) #[true, true, true, true, true, true, true, true, true, true, true, true, false, false, false, false, false, false, false, false, false, false, false, false, false, false] rfl rfl (any_of HT_.out (by kernel_rfl)) (fun _ _ _ h => h) (Or.inl ⟨by rfl, ?_⟩) ?_ ?_; rotate_left
                 ·intro w'
                  go_simp; with_reducible rfl
                 rotate_left
                 ·simp only [Act.put, qa_, qb_, qc_, i64_w, i32_w]
                  rfl
                 refine pure_ (i := 12) (N := some 97) (v := ?_) (a' := ?_) #[true, true, true, true, true, true, true, true, true, true, true, true, true, false, false, false, false, false, false, false, false, false, false, false, false, false] rfl rfl (any_of HT_.out (by kernel_rfl)) (fun _ _ _ h => h) (Or.inl ⟨by rfl, ?_⟩) ?_ ?_; rotate_left
                 ·intro w'
                  go_simp; with_reducible rfl
                 rotate_left
                 ·simp only [Act.put, qa_, qb_, qc_, i64_w, i32_w]
                  rfl
                 refine pure_ (i := 13) (N := some 98) (v := ?_) (a' := ?_) #[true, true, true, true, true, true, true, true, true, true, true, true, true, true, false, false, false, false, false, false, false, false, false, false, false, false] rfl rfl (any_of HT_.out (by kernel_rfl)) (fun _ _ _ h => h) (Or.inl ⟨by rfl, ?_⟩) ?_ ?_; rotate_left
                 ·intro w'
                  go_simp; with_reducible rfl
                 rotate_left
                 ·simp only [Act.put, qa_, qb_, qc_, i64_w, i32_w]
                  rfl
                 refine pure_ (i := 14) (N := some 99) (v := ?_) (a' := ?_) #[true, true, true, true, true, true, true, true, true, true, true, true, true, true, true, false, false, false, false, false, false, false, false, false, false, false] rfl rfl (any_of HT_.out (by kernel_rfl)) (fun _ _ _ h => h) (Or.inl ⟨by rfl, ?_⟩) ?_ ?_; rotate_left
                 ·intro w'
                  go_simp; with_reducible rfl
                 rotate_left
                 ·simp only [Act.put, qa_, qb_, qc_, i64_w, i32_w]
                  rfl
                 refine pure_ (i := 15) (N := some 100) (v := ?_) (a' := ?_) #[true, true, true, true, true, true, true, true, true, true, true, true, true, true, true, true, false, false, false, false, false, false, false, false, false, false] rfl rfl (any_of HT_.out (by kernel_rfl)) (fun _ _ _ h => h) (Or.inl ⟨by rfl, ?_⟩) ?_ ?_; rotate_left
                 ·intro w'
                  go_simp; with_reducible rfl
                 rotate_left
                 ·simp only [Act.put, qa_, qb_, qc_, i64_w, i32_w]
                  rfl
                 refine pure_ (i := 16) (N := some 101) (v := ?_) (a' := ?_) #[true, true, true, true, true, true, true, true, true, true, true, true, true, true, true, true, true, false, false, false, false, false, false, false, false, false] rfl rfl (any_of HT_.out (by kernel_rfl)) (fun _ _ _ h => h) (Or.inl ⟨by rfl, ?_⟩) ?_ ?_; rotate_left
                 ·intro w'
                  go_simp; with_reducible rfl
                 rotate_left
                 ·simp only [Act.put, qa_, qb_, qc_, i64_w, i32_w]
                  rfl
                 refine pure_ (i := 18) (N := some 103) (v := ?_) (a' := ?_) #[true, true, true, true, true, true, true, true, true, true, true, true, true, true, true, true, true, false, true, false, false, false, false, false, false, false] rfl rfl (any_of HT_.out (by kernel_rfl)) (fun _ _ _ h => h) (Or.inl ⟨by rfl, ?_⟩) ?_ ?_; rotate_left
                 ·intro w'
                  go_simp; with_reducible rfl
                 rotate_left
                 ·simp only [Act.put, qa_, qb_, qc_, i64_w, i32_w]
                  rfl
                 refine pure_ (i := 19) (N := some 104) (v := ?_) (a' := ?_) #[true, true, true, true, true, true, true, true, true, true, true, true, true, true, true, true, true, false, true, true, false, false, false, false, false, false] rfl rfl (any_of HT_.out (by kernel_rfl)) (fun _ _ _ h => h) (Or.inl ⟨by rfl, ?_⟩) ?_ ?_; rotate_left
                 ·intro w'
                  go_simp; with_reducible rfl
                 rotate_left
                 ·simp only [Act.put, qa_, qb_, qc_, i64_w, i32_w]
                  rfl
                 refine pure_ (i := 20) (N := some 105) (v := ?_) (a' := ?_) #[true, true, true, true, true, true, true, true, true, true, true, true, true, true, true, true, true, false, true, true, true, false, false, false, false, false] rfl rfl (any_of HT_.out (by kernel_rfl)) (fun _ _ _ h => h) (Or.inl ⟨by rfl, ?_⟩) ?_ ?_; rotate_left
                 ·intro w'
                  go_simp; with_reducible rfl
                 rotate_left
                 ·simp only [Act.put, qa_, qb_, qc_, i64_w, i32_w]
                  rfl
                 refine pure_ (i := 21) (N := some 106) (v := ?_) (a' := ?_) #[true, true, true, true, true, true, true, true, true, true, true, true, true, true, true, true, true, false, true, true, true, true, false, false, false, false] rfl rfl (any_of HT_.out (by kernel_rfl)) (fun _ _ _ h => h) (Or.inl ⟨by rfl, ?_⟩) ?_ ?_; rotate_left
                 ·intro w'
                  go_simp; with_reducible rfl
                 rotate_left
                 ·simp only [Act.put, qa_, qb_, qc_, i64_w, i32_w]
                  rfl
                 refine pure_ (i := 22) (N := some 107) (v := ?_) (a' := ?_) #[true, true, true, true, true, true, true, true, true, true, true, true, true, true, true, true, true, false, true, true, true, true, true, false, false, false] rfl rfl (any_of HT_.out (by kernel_rfl)) (fun _ _ _ h => h) (Or.inl ⟨by rfl, ?_⟩) ?_ ?_; rotate_left
                 ·intro w'
                  go_simp; with_reducible rfl
                 rotate_left
                 ·simp only [Act.put, qa_, qb_, qc_, i64_w, i32_w]
                  rfl
                 refine take_ (i := 17) (N := some 102) (v := ?_) (a' := ?_) #[true, true, true, true, true, true, true, true, true, true, true, true, true, true, true, true, true, true, true, true, true, true, true, false, false, false] rfl rfl (take_ofW HT_.out HW_.out (by kernel_rfl)) (fun _ _ _ h => h) (Or.inl ⟨by rfl, ?_⟩) hHeld ?_ ?_; rotate_left
                 ·rintro w' ⟨s0, s1, s2, s3, s4, s5, s6, s7⟩; go_simp; with_reducible rfl
                 rotate_left
                 ·simp only [Act.put, qa_, qb_, qc_, i64_w, i32_w]
                  rfl
                 refine take_ (i := 23) (N := some 108) (v := ?_) (a' := ?_) #[true, true, true, true, true, true, true, true, true, true, true, true, true, true, true, true, true, true, true, true, true, true, true, true, false, false] rfl rfl (take_ofW HT_.out HW_.out (by kernel_rfl)) (fun _ _ _ h => h) (Or.inl ⟨by rfl, ?_⟩) hHeld ?_ ?_; rotate_left
                 ·rintro w' ⟨s0, s1, s2, s3, s4, s5, s6, s7⟩; go_simp; with_reducible rfl
                 rotate_left
                 ·simp only [Act.put, qa_, qb_, qc_, i64_w, i32_w]
                  rfl
                 refine pure_ (i := 24) (N := some 109) (v := ?_) (a' := ?_) #[true, true, true, true, true, true, true, true, true, true, true, true, true, true, true, true, true, true, true, true, true, true, true, true, true, false] rfl rfl (any_of HT_.out (by kernel_rfl)) (fun _ _ _ h => h) (Or.inl ⟨by rfl, ?_⟩) ?_ ?_; rotate_left
                 ·intro w'
                  go_simp; with_reducible rfl
                 rotate_left
                 ·simp only [Act.put, qa_, qb_, qc_, i64_w, i32_w]
                  rfl
                 refine pure_ (i := 25) (N := some 110) (v := ?_) (a' := ?_) #[true, true, true, true, true, true, true, true, true, true, true, true, true, true, true, true, true, true, true, true, true, true, true, true, true, true] rfl rfl (any_of HT_.out (by kernel_rfl)) (fun _ _ _ h => h) (Or.inl ⟨by rfl, ?_⟩) ?_ ?_; rotate_left
                 ·intro w'
                  go_simp; with_reducible rfl
                 rotate_left
                 ·simp only [Act.put, qa_, qb_, qc_, i64_w, i32_w]
                  rfl
                 refine done_ (done_of HT_.out (by kernel_rfl)) ?_
                 try go_wp2
                 go_meet
                 case rel => exact ⟨_, ((fcmp .neq .f32 fr202_1 fr203_1)), (by first | rfl | (simp; done) | (simp [*]; done)), H', ⟨by have := HJ14.out; have := HK2.out; first | omega | exact Nat.le_refl _⟩, ⟨by (with_reducible repeat (first | apply Kd.R_alloc | apply Kd.R_drewN | apply Kd.R_drew)); exact HO_10.out⟩, ⟨by (with_reducible repeat (first | refine blk_drewN ?_ _ | refine blk_drew ?_ | refine blk_alloc ?_ _)); exact BK180.out⟩, ⟨by (with_reducible repeat (first | refine blk_drewN ?_ _ | refine blk_drew ?_ | refine blk_alloc ?_ _)); exact BK186.out⟩, ⟨by repeat (first | (with_reducible first | exact HB.out | apply below_alloc | apply pw_below_drewN | apply below_drew1) | exact HB.out)⟩⟩
               ·rw [if_neg c78] at H
                exact absurd H (by simp)
              ·rw [if_neg c77] at H
               exact absurd H (by simp)
             ·rw [if_neg c75] at H
              exact absurd H (by simp)
            ·rw [if_neg c74] at H
             exact absurd H (by simp)
           case rest =>
            clear HC73
            try clear p1
            try clear q1
            try clear hx1
            try clear p2
            try clear q2
            try clear hx2
            try clear p6
            try clear c7
            try clear p18
            try clear q18
            try clear hx18
            try clear p20
            try clear q20
            try clear hx20
            try clear p64
            try clear c72
            try clear c72b0
            try clear c74
            try clear c74b0
            try clear c75
            try clear c75b0
            try clear c77
            try clear c77b0
            try clear c78
            try clear c78b0
            try clear c79
            try clear c79b0
            try clear hcz33_1
            try clear hcz39_0
            try clear hcz39_1
            try clear hcz49_0
            try clear hcz49_1
            try clear hcz52_0
            try clear hcz52_1
            try clear hcz58_0
            try clear hcz58_1
            try clear hcz61_0
            try clear hcz61_1
            try clear hcz66_0
            try clear hcz66_1
            try clear hcz69_0
            try clear hcz69_1
            try clear hfz17_0
            try clear hfz17_1
            try clear hfz23_0
            try clear hfz23_1
            try clear hfz33_0
            try clear hfz33_1
            try clear hfz39_0
            try clear hfz39_1
            try clear hfz49_0
            try clear hfz49_1
            try clear hfz52_0
            try clear hfz52_1
            try clear hfz58_0
            try clear hfz58_1
            try clear hfz61_0
            try clear hfz61_1
            try clear hfz66_0
            try clear hfz66_1
            try clear hfz69_0
            try clear hfz69_1
            try clear hx185_0
            try clear hx185_1
            try clear hx202_0
            try clear hx202_1
            try clear hx203_0
            try clear hx203_1
            try clear hx204_0
            try clear hx204_1
            try clear hx205_0
            try clear hx205_1
            try clear p1
            try clear p18
            try clear p185
            try clear p2
            try clear p202
            try clear p203
            try clear p204
            try clear p205
            try clear p6
            try clear p64
            try clear q1
            try clear q18
            try clear q185
            try clear q202
            try clear q203
            try clear q204
            try clear q205
            obtain ⟨kq, x110_72, rfl, HA, HJ72, HO_10, BK180, BK186, HB⟩ := hcut
            cases kq with
            | zero => exact absurd HA.out (by simp [laws_FnQuotient.j2])
            | succ kj72 =>
             have H := HA.out
             clear HA
             simp only [laws_FnQuotient.j2] at H
             by_cases c84 : x110_72 = true
             ·subst c84
              have H1 : (some false) = some r := by rw [if_pos rfl] at H; exact H
              clear H
              have H := H1
              clear H1
              obtain rfl := Option.some.inj H
              go_wp2
              go_ret
              exact ⟨by first | rfl | (simp [errW_none, errW_some] <;> rfl) | (simp only [← hji8]; first | rfl | (simp [errW_none, errW_some] <;> rfl)) | (simp [*, errW_none, errW_some] <;> rfl), by repeat (first | (with_reducible first | exact HB.out | apply below_alloc | apply pw_below_drewN | apply below_drew1) | exact HB.out)⟩
             ·replace c84 := Bool.eq_false_iff.mpr c84
              subst c84
              have H1 : (laws_FnQuotient.l0 kj72 t197 (wrap64 (x12_2 + 1)) ft177 ft179 fr185_0 fr185_1) = some r := by rw [if_neg (show ¬ (false = true) by decide)] at H; exact H
              clear H
              have H := H1
              clear H1
              have H' := Aside0.mk H
              clear H
              go_wp2
              go_roundg kj72
              case measure => have := HJ14.out; have := HK2.out; have := HJ72.out; omega
              case rel => exact ⟨(wrap64 (x12_2 + 1)), (by first | rfl | (simp; done) | (simp [*]; done)), H', ⟨by have := HJ14.out; have := HK2.out; have := HJ72.out; omega⟩, ⟨by (with_reducible repeat (first | apply Kd.R_alloc | apply Kd.R_drewN | apply Kd.R_drew)); exact HO_10.out⟩, ⟨by (with_reducible repeat (first | refine blk_drewN ?_ _ | refine blk_drew ?_ | refine blk_alloc ?_ _)); exact BK180.out⟩, ⟨by (with_reducible repeat (first | refine blk_drewN ?_ _ | refine blk_drew ?_ | refine blk_alloc ?_ _)); exact BK186.out⟩, ⟨by repeat (first | (with_reducible first | exact HB.out | apply below_alloc | apply pw_below_drewN | apply below_drew1) | exact HB.out)⟩⟩
          ·rw [if_neg c72] at H
           have c72b0 : decide (x12_2 < 9) = false := decide_eq_false c72
           clear c72
           replace H := Option.bind_eq_some_iff.mp H
           obtain ⟨⟨t206, t207, t208, t209⟩, A850, H⟩ := H
           replace H : ((impl_CxLess.f ft177 ft179 ft177 ft179).bind fun bt212 => (if (fcmp .eql .f64 t206 (cn .f64 0)) = true then (if (fcmp .eql .f64 t207 (cn .f64 0)) = true then (if (fcmp .eql .f64 t208 (fop .add .f64 ft177 fr185_0)) = true then (if (fcmp .eql .f64 bt212.1 (cn .f64 0)) = true then (if (fcmp .eql .f64 bt212.2 (cn .f64 0)) = true then (if 0 < (t197.length : Int) then (some (fcmp .eql .f32 ((rd_T80 t197 0).f0) (cn .f32 1065353216))) else (none)) else (some false)) else (some false)) else (some false)) else (some false)) else (some false))) = some r := H
           have A85 := Aside0.mk A850
           clear A850
           replace H := Option.bind_eq_some_iff.mp H
           obtain ⟨⟨t212, t213⟩, A860, H⟩ := H
           replace H : (if (fcmp .eql .f64 t206 (cn .f64 0)) = true then (if (fcmp .eql .f64 t207 (cn .f64 0)) = true then (if (fcmp .eql .f64 t208 (fop .add .f64 ft177 fr185_0)) = true then (if (fcmp .eql .f64 t212 (cn .f64 0)) = true then (if (fcmp .eql .f64 t213 (cn .f64 0)) = true then (if 0 < (t197.length : Int) then (some (fcmp .eql .f32 ((rd_T80 t197 0).f0) (cn .f32 1065353216))) else (none)) else (some false)) else (some false)) else (some false)) else (some false)) else (some false)) = some r := H
           have A86 := Aside0.mk A860
           clear A860
           by_cases c87 : (fcmp .eql .f64 t206 (cn .f64 0)) = true
           ·rw [if_pos c87] at H
            have c87b0 : (fcmp .eql .f64 t206 (cn .f64 0)) = true := c87
            clear c87
            by_cases c88 : (fcmp .eql .f64 t207 (cn .f64 0)) = true
            ·rw [if_pos c88] at H
             have c88b0 : (fcmp .eql .f64 t207 (cn .f64 0)) = true := c88
             clear c88
             obtain ⟨ft215, hft215⟩ : ∃ y_ : Fl, y_ = (fop .add .f64 ft177 fr185_0) := ⟨_, rfl⟩
             replace H : (if (fcmp .eql .f64 t208 ft215) = true then (if (fcmp .eql .f64 t212 (cn .f64 0)) = true then (if (fcmp .eql .f64 t213 (cn .f64 0)) = true then (if 0 < (t197.length : Int) then (some (fcmp .eql .f32 ((rd_T80 t197 0).f0) (cn .f32 1065353216))) else (none)) else (some false)) else (some false)) else (some false)) = some r := by first | (rw [hft215]; with_reducible exact H) | (have H2_ := (Option.bind_some _ _).symm.trans H; rw [hft215]; with_reducible exact H2_) | (have H2_ := (Option.bind_some _ _).symm.trans H; with_reducible exact H2_) | with_reducible exact H | (rw [hft215]; exact H) | exact H
             have Nft215 := Aside0.mk hft215
             clear hft215
             by_cases c89 : (fcmp .eql .f64 t208 ft215) = true
             ·rw [if_pos c89] at H
              have c89b0 : (fcmp .eql .f64 t208 ft215) = true := c89
              clear c89
              by_cases c90 : (fcmp .eql .f64 t212 (cn .f64 0)) = true
              ·rw [if_pos c90] at H
               have c90b0 : (fcmp .eql .f64 t212 (cn .f64 0)) = true := c90
               clear c90
               by_cases c91 : (fcmp .eql .f64 t213 (cn .f64 0)) = true
               ·rw [if_pos c91] at H
                have c91b0 : (fcmp .eql .f64 t213 (cn .f64 0)) = true := c91
                clear c91
                by_cases c92 : 0 < (t197.length : Int)
                ·rw [if_pos c92] at H
                 have c92b0 : decide (0 < (t197.length : Int)) = true := decide_eq_true c92
                 have c92b1 : decide (0 < t197.length) = true := decide_eq_true (by omega)
                 clear c92
                 obtain ⟨fr216_0, hfr216_0⟩ : ∃ y_ : Fl, y_ = ((rd_T80 t197 0).f0) := ⟨_, rfl⟩
                 replace H : (some (fcmp .eql .f32 fr216_0 (cn .f32 1065353216))) = some r := by first | (rw [hfr216_0]; with_reducible exact H) | (have H2_ := (Option.bind_some _ _).symm.trans H; rw [hfr216_0]; with_reducible exact H2_) | (have H2_ := (Option.bind_some _ _).symm.trans H; with_reducible exact H2_) | with_reducible exact H | (rw [hfr216_0]; exact H) | exact H
                 have Nfr216_0 := Aside0.mk hfr216_0
                 clear hfr216_0
                 obtain ⟨fr216_1, hfr216_1⟩ : ∃ y_ : Fl, y_ = ((rd_T80 t197 0).f1) := ⟨_, rfl⟩
                 replace H : (some (fcmp .eql .f32 fr216_0 (cn .f32 1065353216))) = some r := by first | (rw [hfr216_1]; with_reducible exact H) | (have H2_ := (Option.bind_some _ _).symm.trans H; rw [hfr216_1]; with_reducible exact H2_) | (have H2_ := (Option.bind_some _ _).symm.trans H; with_reducible exact H2_) | with_reducible exact H | (rw [hfr216_1]; exact H) | exact H
                 have Nfr216_1 := Aside0.mk hfr216_1
                 clear hfr216_1
                 obtain rfl := Option.some.inj H
                 have hnb93 := NB180_186.out
                 have hnc93 := NB186_180.out
                 have hcz94_0 : wr.cell? ⟨gb180, 0, none⟩ = some (.float .f64 b_ft177) := (blk_cell BK180.out 0).trans rfl
                 have hcz94_1 : wr.cell? ⟨gb180, 1, none⟩ = some (.float .f64 b_ft179) := (blk_cell BK180.out 1).trans rfl
                 have hfz94_0 := blk_frozen BK180.out 0
                 have hfz94_1 := blk_frozen BK180.out 1
                 have hcz95_0 : wr.cell? ⟨gb186, 0, none⟩ = some (.float .f64 b_fr185_0) := (blk_cell BK186.out 0).trans rfl
                 have hcz95_1 : wr.cell? ⟨gb186, 1, none⟩ = some (.float .f64 b_fr185_1) := (blk_cell BK186.out 1).trans rfl
                 have hfz95_0 := blk_frozen BK186.out 0
                 have hfz95_1 := blk_frozen BK186.out 1
                 go_wp2_with (first | ((with_reducible refine gate_callee (f := 53) rfl ?_); refine goesL_ (some 116) rfl rfl Try.func53 (by kernel_rfl) rfl #[.agg #[.float .f64 b_ft177, .float .f64 b_ft179], .agg #[.float .f64 b_fr185_0, .float .f64 b_fr185_1], .agg #[.float .f64 b_ft177, .float .f64 b_ft179], .agg #[.float .f64 b_fr185_0, .float .f64 b_fr185_1]] rfl (by (try simp only [List.map_toArray, List.map_cons, List.map_nil]); first | done | rfl | (simp only [List.length_drop, List.length_take]; rfl)) ?_; (with_reducible refine (impl_Flutter.calls b_ft177 ft177 b_ft179 ft179 b_fr185_0 fr185_0 b_fr185_1 fr185_1 b_ft177 ft177 b_ft179 ft179 b_fr185_0 fr185_0 b_fr185_1 fr185_1 t206 t207 t208 t209 _ ?side1 ?side2 ?side3 ?side4 ?side5 ?side6 ?side7 ?side8 A85.out).mono ?_); (case side1 => exact hF_ft177); (case side2 => exact hF_ft179); (case side3 => exact hF_fr185_0); (case side4 => exact hF_fr185_1); (case side5 => exact hF_ft177); (case side6 => exact hF_ft179); (case side7 => exact hF_fr185_0); (case side8 => exact hF_fr185_1); rintro e w96 ⟨b_t206, b_t207, b_t208, b_t209, rfl, hF_t206, hF_t207, hF_t208, hF_t209, hb⟩; refine ⟨_, rfl, ?_⟩; have n0_ := Aside0.mk (Kd.R_below (by exact HO_10.out) hb); have n1_ := Aside0.mk (blk_below (g := gb180) (o := .cells #[.float .f64 b_ft177, .float .f64 b_ft179] 34 (0, 0)) (by exact BK180.out) hb); have n2_ := Aside0.mk (blk_below (g := gb186) (o := .cells #[.float .f64 b_fr185_0, .float .f64 b_fr185_1] 34 (0, 0)) (by exact BK186.out) hb); have n3_ := Aside0.mk (below_step (by exact HB.out) hb); clear HO_10; clear BK180; clear BK186; clear HB; have HO_10 := n0_; have BK180 := n1_; have BK186 := n2_; have HB := n3_; clear n0_ n1_ n2_ n3_; (try clear hb); (try clear hb2); (try clear hk); (try clear hi)) | ((with_reducible refine gate_dst (N := 13) rfl ?_); (try (refine gate_guard (by rfl) ?_; dsimp only)); refine box_event ?hg (N := 13) ?hd (cs := #[.float .f64 0, .float .f64 0]) (t := 34) ?hr ?_; (case hd => rfl); (case hg => rfl); (case hr => first | (go_simp; done) | (go_simp; rfl)); intro gb210 hg w97 hbox hb; have n0_ := Aside0.mk (Kd.R_below (by exact HO_10.out) hb); have n1_ := Aside0.mk (blk_below (g := gb180) (o := .cells #[.float .f64 b_ft177, .float .f64 b_ft179] 34 (0, 0)) (by exact BK180.out) hb); have n2_ := Aside0.mk (blk_below (g := gb186) (o := .cells #[.float .f64 b_fr185_0, .float .f64 b_fr185_1] 34 (0, 0)) (by exact BK186.out) hb); have n3_ := Aside0.mk (below_step (by exact HB.out) hb); have n4_ := Aside0.mk (hbox); have n5_ := Aside0.mk ((by rw [hg]; exact (below_size (by exact HB.out)) : w.heap.size ≤ gb210)); have n6_ := Aside0.mk ((n5_.out)); have n7_ := Aside0.mk ((by rw [hg]; exact Nat.ne_of_lt (blk_lt (g := gb180) (o := .cells #[.float .f64 b_ft177, .float .f64 b_ft179] 34 (0, 0)) (by exact BK180.out)) : gb180 ≠ gb210)); have n8_ := Aside0.mk ((n7_.out.symm)); have n9_ := Aside0.mk ((by rw [hg]; exact Nat.ne_of_lt (blk_lt (g := gb186) (o := .cells #[.float .f64 b_fr185_0, .float .f64 b_fr185_1] 34 (0, 0)) (by exact BK186.out)) : gb186 ≠ gb210)); have n10_ := Aside0.mk ((n9_.out.symm)); clear HO_10; clear BK180; clear BK186; clear HB; have HO_10 := n0_; have BK180 := n1_; have BK186 := n2_; have HB := n3_; have BK210 := n4_; have GW210 := n5_; have GE210 := n6_; have NB180_210 := n7_; have NB210_180 := n8_; have NB186_210 := n9_; have NB210_186 := n10_; clear n0_ n1_ n2_ n3_ n4_ n5_ n6_ n7_ n8_ n9_ n10_; clear hb hbox hg) | ((with_reducible refine gate_dst (N := 14) rfl ?_); (try (refine gate_guard (by rfl) ?_; dsimp only)); refine box_event ?hg (N := 14) ?hd (cs := #[.float .f64 0, .float .f64 0]) (t := 34) ?hr ?_; (case hd => rfl); (case hg => rfl); (case hr => first | (go_simp; done) | (go_simp; rfl)); intro gb211 hg w98 hbox hb; have n0_ := Aside0.mk (Kd.R_below (by exact HO_10.out) hb); have n1_ := Aside0.mk (blk_below (g := gb180) (o := .cells #[.float .f64 b_ft177, .float .f64 b_ft179] 34 (0, 0)) (by exact BK180.out) hb); have n2_ := Aside0.mk (blk_below (g := gb186) (o := .cells #[.float .f64 b_fr185_0, .float .f64 b_fr185_1] 34 (0, 0)) (by exact BK186.out) hb); have n3_ := Aside0.mk (blk_below (g := gb210) (o := .cells #[.float .f64 0, .float .f64 0] 34 (0, 0)) (by exact BK210.out) hb); have n4_ := Aside0.mk (below_step (by exact HB.out) hb); have n5_ := Aside0.mk (hbox); have n6_ := Aside0.mk ((by rw [hg]; exact (below_size (by exact HB.out)) : w.heap.size ≤ gb211)); have n7_ := Aside0.mk ((n6_.out)); have n8_ := Aside0.mk ((by rw [hg]; exact Nat.ne_of_lt (blk_lt (g := gb180) (o := .cells #[.float .f64 b_ft177, .float .f64 b_ft179] 34 (0, 0)) (by exact BK180.out)) : gb180 ≠ gb211)); have n9_ := Aside0.mk ((n8_.out.symm)); have n10_ := Aside0.mk ((by rw [hg]; exact Nat.ne_of_lt (blk_lt (g := gb186) (o := .cells #[.float .f64 b_fr185_0, .float .f64 b_fr185_1] 34 (0, 0)) (by exact BK186.out)) : gb186 ≠ gb211)); have n11_ := Aside0.mk ((n10_.out.symm)); have n12_ := Aside0.mk ((by rw [hg]; exact Nat.ne_of_lt (blk_lt (g := gb210) (o := .cells #[.float .f64 0, .float .f64 0] 34 (0, 0)) (by exact BK210.out)) : gb210 ≠ gb211)); have n13_ := Aside0.mk ((n12_.out.symm)); clear HO_10; clear BK180; clear BK186; clear BK210; clear HB; have HO_10 := n0_; have BK180 := n1_; have BK186 := n2_; have BK210 := n3_; have HB := n4_; have BK211 := n5_; have GW211 := n6_; have GE211 := n7_; have NB180_211 := n8_; have NB211_180 := n9_; have NB186_211 := n10_; have NB211_186 := n11_; have NB210_211 := n12_; have NB211_210 := n13_; clear n0_ n1_ n2_ n3_ n4_ n5_ n6_ n7_ n8_ n9_ n10_ n11_ n12_ n13_; clear hb hbox hg; have hnb99 := NB210_180.out; have hnc99 := NB180_210.out; have hnb100 := NB210_186.out; have hnc100 := NB186_210.out; have hnb101 := NB210_211.out; have hnc101 := NB211_210.out; have hcz102_0 : w98.cell? ⟨gb210, 0, none⟩ = some (.float .f64 0) := (blk_cell BK210.out 0).trans rfl; have hcz102_1 : w98.cell? ⟨gb210, 1, none⟩ = some (.float .f64 0) := (blk_cell BK210.out 1).trans rfl; have hfz102_0 := blk_frozen BK210.out 0; have hfz102_1 := blk_frozen BK210.out 1; have hnb103 := NB211_180.out; have hnc103 := NB180_211.out; have hnb104 := NB211_186.out; have hnc104 := NB186_211.out; have hcz105_0 : w98.cell? ⟨gb211, 0, none⟩ = some (.float .f64 0) := (blk_cell BK211.out 0).trans rfl; have hcz105_1 : w98.cell? ⟨gb211, 1, none⟩ = some (.float .f64 0) := (blk_cell BK211.out 1).trans rfl; have hfz105_0 := blk_frozen BK211.out 0; have hfz105_1 := blk_frozen BK211.out 1; have hcz106_0 : w98.cell? ⟨gb180, 0, none⟩ = some (.float .f64 b_ft177) := (blk_cell BK180.out 0).trans rfl; have hcz106_1 : w98.cell? ⟨gb180, 1, none⟩ = some (.float .f64 b_ft179) := (blk_cell BK180.out 1).trans rfl; have hfz106_0 := blk_frozen BK180.out 0; have hfz106_1 := blk_frozen BK180.out 1) | ((with_reducible refine gate_callee (f := 54) rfl ?_); refine goesL_ (some 121) rfl rfl Try.func54 (by kernel_rfl) rfl #[.agg #[.float .f64 b_ft177, .float .f64 b_ft179], .agg #[.float .f64 b_ft177, .float .f64 b_ft179]] rfl (by (try simp only [List.map_toArray, List.map_cons, List.map_nil]); first | done | rfl | (simp only [List.length_drop, List.length_take]; rfl)) ?_; (with_reducible refine (impl_CxLess.calls b_ft177 ft177 b_ft179 ft179 b_ft177 ft177 b_ft179 ft179 t212 t213 _ ?side1 ?side2 ?side3 ?side4 A86.out).mono ?_); (case side1 => exact hF_ft177); (case side2 => exact hF_ft179); (case side3 => exact hF_ft177); (case side4 => exact hF_ft179); rintro e w107 ⟨b_t212, b_t213, rfl, hF_t212, hF_t213, hb⟩; refine ⟨_, rfl, ?_⟩; have n0_ := Aside0.mk (Kd.R_below (by (with_reducible repeat (first | apply Kd.R_alloc | apply Kd.R_drewN | apply Kd.R_drew)); exact (Kd.R_mono (Kd.R_mono (Kd.R_far (p := ⟨gb211, 1, none⟩) (Kd.R_far (p := ⟨gb211, 0, none⟩) (Kd.R_far (p := ⟨gb210, 1, none⟩) (Kd.R_far (p := ⟨gb210, 0, none⟩) (Kd.R_types (Kd.R_types HO_10.out BK210.out (by decide)) BK211.out (by decide)) (fun _ hk => hk.1.2) (.float .f64 b_t206)) (fun _ hk => hk.1.2) (.float .f64 b_t207)) (fun _ hk => hk.2) (.float .f64 b_t208)) (fun _ hk => hk.2) (.float .f64 b_t209)) (fun _ h_ => h_.1)) (fun _ h_ => h_.1))) hb); have n1_ := Aside0.mk (blk_below (g := gb180) (o := .cells #[.float .f64 b_ft177, .float .f64 b_ft179] 34 (0, 0)) (by (with_reducible repeat (first | refine blk_drewN ?_ _ | refine blk_drew ?_ | refine blk_alloc ?_ _)); refine blk_far ?_ NB180_211.out _; (with_reducible repeat (first | refine blk_drewN ?_ _ | refine blk_drew ?_ | refine blk_alloc ?_ _)); refine blk_far ?_ NB180_211.out _; (with_reducible repeat (first | refine blk_drewN ?_ _ | refine blk_drew ?_ | refine blk_alloc ?_ _)); refine blk_far ?_ NB180_210.out _; (with_reducible repeat (first | refine blk_drewN ?_ _ | refine blk_drew ?_ | refine blk_alloc ?_ _)); refine blk_far ?_ NB180_210.out _; (with_reducible repeat (first | refine blk_drewN ?_ _ | refine blk_drew ?_ | refine blk_alloc ?_ _)); exact BK180.out) hb); have n2_ := Aside0.mk (blk_below (g := gb186) (o := .cells #[.float .f64 b_fr185_0, .float .f64 b_fr185_1] 34 (0, 0)) (by (with_reducible repeat (first | refine blk_drewN ?_ _ | refine blk_drew ?_ | refine blk_alloc ?_ _)); refine blk_far ?_ NB186_211.out _; (with_reducible repeat (first | refine blk_drewN ?_ _ | refine blk_drew ?_ | refine blk_alloc ?_ _)); refine blk_far ?_ NB186_211.out _; (with_reducible repeat (first | refine blk_drewN ?_ _ | refine blk_drew ?_ | refine blk_alloc ?_ _)); refine blk_far ?_ NB186_210.out _; (with_reducible repeat (first | refine blk_drewN ?_ _ | refine blk_drew ?_ | refine blk_alloc ?_ _)); refine blk_far ?_ NB186_210.out _; (with_reducible repeat (first | refine blk_drewN ?_ _ | refine blk_drew ?_ | refine blk_alloc ?_ _)); exact BK186.out) hb); have n3_ := Aside0.mk (blk_below (g := gb210) (o := .cells #[.float .f64 b_t206, .float .f64 b_t207] 34 (0, 0)) (by (with_reducible repeat (first | refine blk_drewN ?_ _ | refine blk_drew ?_ | refine blk_alloc ?_ _)); refine blk_far ?_ NB210_211.out _; (with_reducible repeat (first | refine blk_drewN ?_ _ | refine blk_drew ?_ | refine blk_alloc ?_ _)); refine blk_far ?_ NB210_211.out _; (with_reducible repeat (first | refine blk_drewN ?_ _ | refine blk_drew ?_ | refine blk_alloc ?_ _)); refine blk_put (cs := #[.float .f64 b_t206, .float .f64 0]) ?_ 1 _ rfl; (with_reducible repeat (first | refine blk_drewN ?_ _ | refine blk_drew ?_ | refine blk_alloc ?_ _)); refine blk_put (cs := #[.float .f64 0, .float .f64 0]) ?_ 0 _ rfl; (with_reducible repeat (first | refine blk_drewN ?_ _ | refine blk_drew ?_ | refine blk_alloc ?_ _)); exact BK210.out) hb); have n4_ := Aside0.mk (blk_below (g := gb211) (o := .cells #[.float .f64 b_t208, .float .f64 b_t209] 34 (0, 0)) (by (with_reducible repeat (first | refine blk_drewN ?_ _ | refine blk_drew ?_ | refine blk_alloc ?_ _)); refine blk_put (cs := #[.float .f64 b_t208, .float .f64 0]) ?_ 1 _ rfl; (with_reducible repeat (first | refine blk_drewN ?_ _ | refine blk_drew ?_ | refine blk_alloc ?_ _)); refine blk_put (cs := #[.float .f64 0, .float .f64 0]) ?_ 0 _ rfl; (with_reducible repeat (first | refine blk_drewN ?_ _ | refine blk_drew ?_ | refine blk_alloc ?_ _)); refine blk_far ?_ NB211_210.out _; (with_reducible repeat (first | refine blk_drewN ?_ _ | refine blk_drew ?_ | refine blk_alloc ?_ _)); refine blk_far ?_ NB211_210.out _; (with_reducible repeat (first | refine blk_drewN ?_ _ | refine blk_drew ?_ | refine blk_alloc ?_ _)); exact BK211.out) hb); have n5_ := Aside0.mk (below_step (by repeat (first | (with_reducible first | exact HB.out | apply below_alloc | apply pw_below_drewN | apply below_drew1 | refine below_set ?_ GE210.out | refine below_set ?_ GE211.out) | exact HB.out)) hb); clear HO_10; clear BK180; clear BK186; clear BK210; clear BK211; clear HB; have HO_10 := n0_; have BK180 := n1_; have BK186 := n2_; have BK210 := n3_; have BK211 := n4_; have HB := n5_; clear n0_ n1_ n2_ n3_ n4_ n5_; (try clear hb); (try clear hb2); (try clear hk); (try clear hi)) | ((with_reducible refine gate_dst (N := 15) rfl ?_); (try (refine gate_guard (by rfl) ?_; dsimp only)); refine box_event ?hg (N := 15) ?hd (cs := #[.float .f64 0, .float .f64 0]) (t := 34) ?hr ?_; (case hd => rfl); (case hg => rfl); (case hr => first | (go_simp; done) | (go_simp; rfl)); intro gb214 hg w108 hbox hb; have n0_ := Aside0.mk (Kd.R_below (by exact HO_10.out) hb); have n1_ := Aside0.mk (blk_below (g := gb180) (o := .cells #[.float .f64 b_ft177, .float .f64 b_ft179] 34 (0, 0)) (by exact BK180.out) hb); have n2_ := Aside0.mk (blk_below (g := gb186) (o := .cells #[.float .f64 b_fr185_0, .float .f64 b_fr185_1] 34 (0, 0)) (by exact BK186.out) hb); have n3_ := Aside0.mk (blk_below (g := gb210) (o := .cells #[.float .f64 b_t206, .float .f64 b_t207] 34 (0, 0)) (by exact BK210.out) hb); have n4_ := Aside0.mk (blk_below (g := gb211) (o := .cells #[.float .f64 b_t208, .float .f64 b_t209] 34 (0, 0)) (by exact BK211.out) hb); have n5_ := Aside0.mk (below_step (by exact HB.out) hb); have n6_ := Aside0.mk (hbox); have n7_ := Aside0.mk ((by rw [hg]; exact (below_size (by exact HB.out)) : w.heap.size ≤ gb214)); have n8_ := Aside0.mk ((n7_.out)); have n9_ := Aside0.mk ((by rw [hg]; exact Nat.ne_of_lt (blk_lt (g := gb180) (o := .cells #[.float .f64 b_ft177, .float .f64 b_ft179] 34 (0, 0)) (by exact BK180.out)) : gb180 ≠ gb214)); have n10_ := Aside0.mk ((n9_.out.symm)); have n11_ := Aside0.mk ((by rw [hg]; exact Nat.ne_of_lt (blk_lt (g := gb186) (o := .cells #[.float .f64 b_fr185_0, .float .f64 b_fr185_1] 34 (0, 0)) (by exact BK186.out)) : gb186 ≠ gb214)); have n12_ := Aside0.mk ((n11_.out.symm)); have n13_ := Aside0.mk ((by rw [hg]; exact Nat.ne_of_lt (blk_lt (g := gb210) (o := .cells #[.float .f64 b_t206, .float .f64 b_t207] 34 (0, 0)) (by exact BK210.out)) : gb210 ≠ gb214)); have n14_ := Aside0.mk ((n13_.out.symm)); have n15_ := Aside0.mk ((by rw [hg]; exact Nat.ne_of_lt (blk_lt (g := gb211) (o := .cells #[.float .f64 b_t208, .float .f64 b_t209] 34 (0, 0)) (by exact BK211.out)) : gb211 ≠ gb214)); have n16_ := Aside0.mk ((n15_.out.symm)); clear HO_10; clear BK180; clear BK186; clear BK210; clear BK211; clear HB; have HO_10 := n0_; have BK180 := n1_; have BK186 := n2_; have BK210 := n3_; have BK211 := n4_; have HB := n5_; have BK214 := n6_; have GW214 := n7_; have GE214 := n8_; have NB180_214 := n9_; have NB214_180 := n10_; have NB186_214 := n11_; have NB214_186 := n12_; have NB210_214 := n13_; have NB214_210 := n14_; have NB211_214 := n15_; have NB214_211 := n16_; clear n0_ n1_ n2_ n3_ n4_ n5_ n6_ n7_ n8_ n9_ n10_ n11_ n12_ n13_ n14_ n15_ n16_; clear hb hbox hg; have hnb109 := NB214_180.out; have hnc109 := NB180_214.out; have hnb110 := NB214_186.out; have hnc110 := NB186_214.out; have hnb111 := NB214_210.out; have hnc111 := NB210_214.out; have hnb112 := NB214_211.out; have hnc112 := NB211_214.out; have hcz113_0 : w108.cell? ⟨gb214, 0, none⟩ = some (.float .f64 0) := (blk_cell BK214.out 0).trans rfl; have hcz113_1 : w108.cell? ⟨gb214, 1, none⟩ = some (.float .f64 0) := (blk_cell BK214.out 1).trans rfl; have hfz113_0 := blk_frozen BK214.out 0; have hfz113_1 := blk_frozen BK214.out 1; have hcz114_0 : w108.cell? ⟨gb210, 0, none⟩ = some (.float .f64 b_t206) := (blk_cell BK210.out 0).trans rfl; have hcz114_1 : w108.cell? ⟨gb210, 1, none⟩ = some (.float .f64 b_t207) := (blk_cell BK210.out 1).trans rfl; have hfz114_0 := blk_frozen BK210.out 0; have hfz114_1 := blk_frozen BK210.out 1; have hcz115_0 : w108.cell? ⟨gb211, 0, none⟩ = some (.float .f64 b_t208) := (blk_cell BK211.out 0).trans rfl; have hcz115_1 : w108.cell? ⟨gb211, 1, none⟩ = some (.float .f64 b_t209) := (blk_cell BK211.out 1).trans rfl; have hfz115_0 := blk_frozen BK211.out 0; have hfz115_1 := blk_frozen BK211.out 1; have hcz116_0 : w108.cell? ⟨gb180, 0, none⟩ = some (.float .f64 b_ft177) := (blk_cell BK180.out 0).trans rfl; have hcz116_1 : w108.cell? ⟨gb180, 1, none⟩ = some (.float .f64 b_ft179) := (blk_cell BK180.out 1).trans rfl; have hfz116_0 := blk_frozen BK180.out 0; have hfz116_1 := blk_frozen BK180.out 1; have hcz117_0 : w108.cell? ⟨gb186, 0, none⟩ = some (.float .f64 b_fr185_0) := (blk_cell BK186.out 0).trans rfl; have hcz117_1 : w108.cell? ⟨gb186, 1, none⟩ = some (.float .f64 b_fr185_1) := (blk_cell BK186.out 1).trans rfl; have hfz117_0 := blk_frozen BK186.out 0; have hfz117_1 := blk_frozen BK186.out 1) | ((with_reducible refine gate_dst (N := 137) rfl ?_); (try (refine gate_guard (by rfl) ?_; dsimp only)); (try (refine gate_guard (by rfl) ?_; dsimp only)); refine fop_event rfl (N := 137) rfl (op := .add) (by simp) rfl .f64 b_ft177 b_fr185_0 ft177 fr185_0 rfl rfl hF_ft177 hF_fr185_0 ?_; intro b_ft215 nf_ hF_; replace hF_ := hF_.trans Nft215.out.symm; have hF_ft215 := hF_; clear hF_; obtain ⟨Ao118, co118, eo118⟩ := Kd.R_slice HO_10.out; subst eo118; have p216 : 0 ≤ (0 : Int) := (by omega); have q216 : 0 < (t197.length : Int) := of_decide_eq_true (by first | (with_reducible assumption) | assumption); obtain ⟨ad216, b_fr216_0, b_fr216_1, e216, hx216_0, hx216_1, hF216_0, hF216_1⟩ := at_T80 (Kd.R_reads' HO_10.out).2.2 0 p216 q216; have hF_fr216_0 := hF216_0.trans Nfr216_0.out.symm; clear hF216_0; have hF_fr216_1 := hF216_1.trans Nfr216_1.out.symm; clear hF216_1; cases e216; have qi216 : (0 < t197.length) = True := eq_true (by omega); (try rw [show ((0 : Int)).toNat = 0 from rfl] at hx216_0); (try rw [show 0 * 2 = 0 from rfl] at hx216_0); (try rw [Addr.add_zero'] at hx216_0); (try rw [show ((0 : Int)).toNat = 0 from rfl] at hx216_1); (try rw [show 0 * 2 = 0 from rfl] at hx216_1); (try rw [Addr.add_zero'] at hx216_1); have hn216_0 : ad216.block ≠ gb214 := Kd.own_blk (Kd.R_ne HO_10.out BK214.out (by decide)); have hn216_1 : ad216.block ≠ gb214 := Kd.own_blk (Kd.R_ne HO_10.out BK214.out (by decide)); replace hx216_0 := (cell_far (p := ⟨gb214, 0, none⟩) (by first | (rw [add_block]; exact hn216_0) | (show (Addr.add _ _).block ≠ _; rw [add_block]; exact hn216_0) | exact hn216_0) (.float .f64 b_t212)).trans hx216_0; replace hx216_1 := (cell_far (p := ⟨gb214, 0, none⟩) (by first | (rw [add_block]; exact hn216_0) | (show (Addr.add _ _).block ≠ _; rw [add_block]; exact hn216_0) | exact hn216_0) (.float .f64 b_t212)).trans hx216_1; replace hx216_0 := (cell_far (p := ⟨gb214, 1, none⟩) (by first | (rw [add_block]; exact hn216_1) | (show (Addr.add _ _).block ≠ _; rw [add_block]; exact hn216_1) | exact hn216_1) (.float .f64 b_t213)).trans hx216_0; replace hx216_1 := (cell_far (p := ⟨gb214, 1, none⟩) (by first | (rw [add_block]; exact hn216_1) | (show (Addr.add _ _).block ≠ _; rw [add_block]; exact hn216_1) | exact hn216_1) (.float .f64 b_t213)).trans hx216_1; clear hn216_0; clear hn216_1; replace p216 := eq_true p216; replace q216 := eq_true q216))
                 go_ret
                 exact ⟨by first | rfl | (simp [errW_none, errW_some] <;> rfl) | (simp only [← hji8]; first | rfl | (simp [errW_none, errW_some] <;> rfl)) | (simp [*, errW_none, errW_some] <;> rfl), by repeat (first | (with_reducible first | exact HB.out | apply below_alloc | apply pw_below_drewN | apply below_drew1 | refine below_set ?_ GE214.out) | exact HB.out)⟩
                ·rw [if_neg c92] at H
                 exact absurd H (by simp)
               ·rw [if_neg c91] at H
                have c91b0 : (fcmp .eql .f64 t213 (cn .f64 0)) = false := by simpa using c91
                clear c91
                obtain rfl := Option.some.inj H
                have hnb119 := NB180_186.out
                have hnc119 := NB186_180.out
                have hcz120_0 : wr.cell? ⟨gb180, 0, none⟩ = some (.float .f64 b_ft177) := (blk_cell BK180.out 0).trans rfl
                have hcz120_1 : wr.cell? ⟨gb180, 1, none⟩ = some (.float .f64 b_ft179) := (blk_cell BK180.out 1).trans rfl
                have hfz120_0 := blk_frozen BK180.out 0
                have hfz120_1 := blk_frozen BK180.out 1
                have hcz121_0 : wr.cell? ⟨gb186, 0, none⟩ = some (.float .f64 b_fr185_0) := (blk_cell BK186.out 0).trans rfl
                have hcz121_1 : wr.cell? ⟨gb186, 1, none⟩ = some (.float .f64 b_fr185_1) := (blk_cell BK186.out 1).trans rfl
                have hfz121_0 := blk_frozen BK186.out 0
                have hfz121_1 := blk_frozen BK186.out 1
                go_wp2_with (first | ((with_reducible refine gate_callee (f := 53) rfl ?_); refine goesL_ (some 116) rfl rfl Try.func53 (by kernel_rfl) rfl #[.agg #[.float .f64 b_ft177, .float .f64 b_ft179], .agg #[.float .f64 b_fr185_0, .float .f64 b_fr185_1], .agg #[.float .f64 b_ft177, .float .f64 b_ft179], .agg #[.float .f64 b_fr185_0, .float .f64 b_fr185_1]] rfl (by (try simp only [List.map_toArray, List.map_cons, List.map_nil]); first | done | rfl | (simp only [List.length_drop, List.length_take]; rfl)) ?_; (with_reducible refine (impl_Flutter.calls b_ft177 ft177 b_ft179 ft179 b_fr185_0 fr185_0 b_fr185_1 fr185_1 b_ft177 ft177 b_ft179 ft179 b_fr185_0 fr185_0 b_fr185_1 fr185_1 t206 t207 t208 t209 _ ?side1 ?side2 ?side3 ?side4 ?side5 ?side6 ?side7 ?side8 A85.out).mono ?_); (case side1 => exact hF_ft177); (case side2 => exact hF_ft179); (case side3 => exact hF_fr185_0); (case side4 => exact hF_fr185_1); (case side5 => exact hF_ft177); (case side6 => exact hF_ft179); (case side7 => exact hF_fr185_0); (case side8 => exact hF_fr185_1); rintro e w122 ⟨b_t206, b_t207, b_t208, b_t209, rfl, hF_t206, hF_t207, hF_t208, hF_t209, hb⟩; refine ⟨_, rfl, ?_⟩; have n0_ := Aside0.mk (Kd.R_below (by exact HO_10.out) hb); have n1_ := Aside0.mk (blk_below (g := gb180) (o := .cells #[.float .f64 b_ft177, .float .f64 b_ft179] 34 (0, 0)) (by exact BK180.out) hb); have n2_ := Aside0.mk (blk_below (g := gb186) (o := .cells #[.float .f64 b_fr185_0, .float .f64 b_fr185_1] 34 (0, 0)) (by exact BK186.out) hb); have n3_ := Aside0.mk (below_step (by exact HB.out) hb); clear HO_10; clear BK180; clear BK186; clear HB; have HO_10 := n0_; have BK180 := n1_; have BK186 := n2_; have HB := n3_; clear n0_ n1_ n2_ n3_; (try clear hb); (try clear hb2); (try clear hk); (try clear hi)) | ((with_reducible refine gate_dst (N := 13) rfl ?_); (try (refine gate_guard (by rfl) ?_; dsimp only)); refine box_event ?hg (N := 13) ?hd (cs := #[.float .f64 0, .float .f64 0]) (t := 34) ?hr ?_; (case hd => rfl); (case hg => rfl); (case hr => first | (go_simp; done) | (go_simp; rfl)); intro gb210 hg w123 hbox hb; have n0_ := Aside0.mk (Kd.R_below (by exact HO_10.out) hb); have n1_ := Aside0.mk (blk_below (g := gb180) (o := .cells #[.float .f64 b_ft177, .float .f64 b_ft179] 34 (0, 0)) (by exact BK180.out) hb); have n2_ := Aside0.mk (blk_below (g := gb186) (o := .cells #[.float .f64 b_fr185_0, .float .f64 b_fr185_1] 34 (0, 0)) (by exact BK186.out) hb); have n3_ := Aside0.mk (below_step (by exact HB.out) hb); have n4_ := Aside0.mk (hbox); have n5_ := Aside0.mk ((by rw [hg]; exact (below_size (by exact HB.out)) : w.heap.size ≤ gb210)); have n6_ := Aside0.mk ((n5_.out)); have n7_ := Aside0.mk ((by rw [hg]; exact Nat.ne_of_lt (blk_lt (g := gb180) (o := .cells #[.float .f64 b_ft177, .float .f64 b_ft179] 34 (0, 0)) (by exact BK180.out)) : gb180 ≠ gb210)); have n8_ := Aside0.mk ((n7_.out.symm)); have n9_ := Aside0.mk ((by rw [hg]; exact Nat.ne_of_lt (blk_lt (g := gb186) (o := .cells #[.float .f64 b_fr185_0, .float .f64 b_fr185_1] 34 (0, 0)) (by exact BK186.out)) : gb186 ≠ gb210)); have n10_ := Aside0.mk ((n9_.out.symm)); clear HO_10; clear BK180; clear BK186; clear HB; have HO_10 := n0_; have BK180 := n1_; have BK186 := n2_; have HB := n3_; have BK210 := n4_; have GW210 := n5_; have GE210 := n6_; have NB180_210 := n7_; have NB210_180 := n8_; have NB186_210 := n9_; have NB210_186 := n10_; clear n0_ n1_ n2_ n3_ n4_ n5_ n6_ n7_ n8_ n9_ n10_; clear hb hbox hg) | ((with_reducible refine gate_dst (N := 14) rfl ?_); (try (refine gate_guard (by rfl) ?_; dsimp only)); refine box_event ?hg (N := 14) ?hd (cs := #[.float .f64 0, .float .f64 0]) (t := 34) ?hr ?_; (case hd => rfl); (case hg => rfl); (case hr => first | (go_simp; done) | (go_simp; rfl)); intro gb211 hg w124 hbox hb; have n0_ := Aside0.mk (Kd.R_below (by exact HO_10.out) hb); have n1_ := Aside0.mk (blk_below (g := gb180) (o := .cells #[.float .f64 b_ft177, .float .f64 b_ft179] 34 (0, 0)) (by exact BK180.out) hb); have n2_ := Aside0.mk (blk_below (g := gb186) (o := .cells #[.float .f64 b_fr185_0, .float .f64 b_fr185_1] 34 (0, 0)) (by exact BK186.out) hb); have n3_ := Aside0.mk (blk_below (g := gb210) (o := .cells #[.float .f64 0, .float .f64 0] 34 (0, 0)) (by exact BK210.out) hb); have n4_ := Aside0.mk (below_step (by exact HB.out) hb); have n5_ := Aside0.mk (hbox); have n6_ := Aside0.mk ((by rw [hg]; exact (below_size (by exact HB.out)) : w.heap.size ≤ gb211)); have n7_ := Aside0.mk ((n6_.out)); have n8_ := Aside0.mk ((by rw [hg]; exact Nat.ne_of_lt (blk_lt (g := gb180) (o := .cells #[.float .f64 b_ft177, .float .f64 b_ft179] 34 (0, 0)) (by exact BK180.out)) : gb180 ≠ gb211)); have n9_ := Aside0.mk ((n8_.out.symm)); have n10_ := Aside0.mk ((by rw [hg]; exact Nat.ne_of_lt (blk_lt (g := gb186) (o := .cells #[.float .f64 b_fr185_0, .float .f64 b_fr185_1] 34 (0, 0)) (by exact BK186.out)) : gb186 ≠ gb211)); have n11_ := Aside0.mk ((n10_.out.symm)); have n12_ := Aside0.mk ((by rw [hg]; exact Nat.ne_of_lt (blk_lt (g := gb210) (o := .cells #[.float .f64 0, .float .f64 0] 34 (0, 0)) (by exact BK210.out)) : gb210 ≠ gb211)); have n13_ := Aside0.mk ((n12_.out.symm)); clear HO_10; clear BK180; clear BK186; clear BK210; clear HB; have HO_10 := n0_; have BK180 := n1_; have BK186 := n2_; have BK210 := n3_; have HB := n4_; have BK211 := n5_; have GW211 := n6_; have GE211 := n7_; have NB180_211 := n8_; have NB211_180 := n9_; have NB186_211 := n10_; have NB211_186 := n11_; have NB210_211 := n12_; have NB211_210 := n13_; clear n0_ n1_ n2_ n3_ n4_ n5_ n6_ n7_ n8_ n9_ n10_ n11_ n12_ n13_; clear hb hbox hg; have hnb125 := NB210_180.out; have hnc125 := NB180_210.out; have hnb126 := NB210_186.out; have hnc126 := NB186_210.out; have hnb127 := NB210_211.out; have hnc127 := NB211_210.out; have hcz128_0 : w124.cell? ⟨gb210, 0, none⟩ = some (.float .f64 0) := (blk_cell BK210.out 0).trans rfl; have hcz128_1 : w124.cell? ⟨gb210, 1, none⟩ = some (.float .f64 0) := (blk_cell BK210.out 1).trans rfl; have hfz128_0 := blk_frozen BK210.out 0; have hfz128_1 := blk_frozen BK210.out 1; have hnb129 := NB211_180.out; have hnc129 := NB180_211.out; have hnb130 := NB211_186.out; have hnc130 := NB186_211.out; have hcz131_0 : w124.cell? ⟨gb211, 0, none⟩ = some (.float .f64 0) := (blk_cell BK211.out 0).trans rfl; have hcz131_1 : w124.cell? ⟨gb211, 1, none⟩ = some (.float .f64 0) := (blk_cell BK211.out 1).trans rfl; have hfz131_0 := blk_frozen BK211.out 0; have hfz131_1 := blk_frozen BK211.out 1; have hcz132_0 : w124.cell? ⟨gb180, 0, none⟩ = some (.float .f64 b_ft177) := (blk_cell BK180.out 0).trans rfl; have hcz132_1 : w124.cell? ⟨gb180, 1, none⟩ = some (.float .f64 b_ft179) := (blk_cell BK180.out 1).trans rfl; have hfz132_0 := blk_frozen BK180.out 0; have hfz132_1 := blk_frozen BK180.out 1) | ((with_reducible refine gate_callee (f := 54) rfl ?_); refine goesL_ (some 121) rfl rfl Try.func54 (by kernel_rfl) rfl #[.agg #[.float .f64 b_ft177, .float .f64 b_ft179], .agg #[.float .f64 b_ft177, .float .f64 b_ft179]] rfl (by (try simp only [List.map_toArray, List.map_cons, List.map_nil]); first | done | rfl | (simp only [List.length_drop, List.length_take]; rfl)) ?_; (with_reducible refine (impl_CxLess.calls b_ft177 ft177 b_ft179 ft179 b_ft177 ft177 b_ft179 ft179 t212 t213 _ ?side1 ?side2 ?side3 ?side4 A86.out).mono ?_); (case side1 => exact hF_ft177); (case side2 => exact hF_ft179); (case side3 => exact hF_ft177); (case side4 => exact hF_ft179); rintro e w133 ⟨b_t212, b_t213, rfl, hF_t212, hF_t213, hb⟩; refine ⟨_, rfl, ?_⟩; have n0_ := Aside0.mk (Kd.R_below (by (with_reducible repeat (first | apply Kd.R_alloc | apply Kd.R_drewN | apply Kd.R_drew)); exact (Kd.R_mono (Kd.R_mono (Kd.R_far (p := ⟨gb211, 1, none⟩) (Kd.R_far (p := ⟨gb211, 0, none⟩) (Kd.R_far (p := ⟨gb210, 1, none⟩) (Kd.R_far (p := ⟨gb210, 0, none⟩) (Kd.R_types (Kd.R_types HO_10.out BK210.out (by decide)) BK211.out (by decide)) (fun _ hk => hk.1.2) (.float .f64 b_t206)) (fun _ hk => hk.1.2) (.float .f64 b_t207)) (fun _ hk => hk.2) (.float .f64 b_t208)) (fun _ hk => hk.2) (.float .f64 b_t209)) (fun _ h_ => h_.1)) (fun _ h_ => h_.1))) hb); have n1_ := Aside0.mk (blk_below (g := gb180) (o := .cells #[.float .f64 b_ft177, .float .f64 b_ft179] 34 (0, 0)) (by (with_reducible repeat (first | refine blk_drewN ?_ _ | refine blk_drew ?_ | refine blk_alloc ?_ _)); refine blk_far ?_ NB180_211.out _; (with_reducible repeat (first | refine blk_drewN ?_ _ | refine blk_drew ?_ | refine blk_alloc ?_ _)); refine blk_far ?_ NB180_211.out _; (with_reducible repeat (first | refine blk_drewN ?_ _ | refine blk_drew ?_ | refine blk_alloc ?_ _)); refine blk_far ?_ NB180_210.out _; (with_reducible repeat (first | refine blk_drewN ?_ _ | refine blk_drew ?_ | refine blk_alloc ?_ _)); refine blk_far ?_ NB180_210.out _; (with_reducible repeat (first | refine blk_drewN ?_ _ | refine blk_drew ?_ | refine blk_alloc ?_ _)); exact BK180.out) hb); have n2_ := Aside0.mk (blk_below (g := gb186) (o := .cells #[.float .f64 b_fr185_0, .float .f64 b_fr185_1] 34 (0, 0)) (by (with_reducible repeat (first | refine blk_drewN ?_ _ | refine blk_drew ?_ | refine blk_alloc ?_ _)); refine blk_far ?_ NB186_211.out _; (with_reducible repeat (first | refine blk_drewN ?_ _ | refine blk_drew ?_ | refine blk_alloc ?_ _)); refine blk_far ?_ NB186_211.out _; (with_reducible repeat (first | refine blk_drewN ?_ _ | refine blk_drew ?_ | refine blk_alloc ?_ _)); refine blk_far ?_ NB186_210.out _; (with_reducible repeat (first | refine blk_drewN ?_ _ | refine blk_drew ?_ | refine blk_alloc ?_ _)); refine blk_far ?_ NB186_210.out _; (with_reducible repeat (first | refine blk_drewN ?_ _ | refine blk_drew ?_ | refine blk_alloc ?_ _)); exact BK186.out) hb); have n3_ := Aside0.mk (blk_below (g := gb210) (o := .cells #[.float .f64 b_t206, .float .f64 b_t207] 34 (0, 0)) (by (with_reducible repeat (first | refine blk_drewN ?_ _ | refine blk_drew ?_ | refine blk_alloc ?_ _)); refine blk_far ?_ NB210_211.out _; (with_reducible repeat (first | refine blk_drewN ?_ _ | refine blk_drew ?_ | refine blk_alloc ?_ _)); refine blk_far ?_ NB210_211.out _; (with_reducible repeat (first | refine blk_drewN ?_ _ | refine blk_drew ?_ | refine blk_alloc ?_ _)); refine blk_put (cs := #[.float .f64 b_t206, .float .f64 0]) ?_ 1 _ rfl; (with_reducible repeat (first | refine blk_drewN ?_ _ | refine blk_drew ?_ | refine blk_alloc ?_ _)); refine blk_put (cs := #[.float .f64 0, .float .f64 0]) ?_ 0 _ rfl; (with_reducible repeat (first | refine blk_drewN ?_ _ | refine blk_drew ?_ | refine blk_alloc ?_ _)); exact BK210.out) hb); have n4_ := Aside0.mk (blk_below (g := gb211) (o := .cells #[.float .f64 b_t208, .float .f64 b_t209] 34 (0, 0)) (by (with_reducible repeat (first | refine blk_drewN ?_ _ | refine blk_drew ?_ | refine blk_alloc ?_ _)); refine blk_put (cs := #[.float .f64 b_t208, .float .f64 0]) ?_ 1 _ rfl; (with_reducible repeat (first | refine blk_drewN ?_ _ | refine blk_drew ?_ | refine blk_alloc ?_ _)); refine blk_put (cs := #[.float .f64 0, .float .f64 0]) ?_ 0 _ rfl; (with_reducible repeat (first | refine blk_drewN ?_ _ | refine blk_drew ?_ | refine blk_alloc ?_ _)); refine blk_far ?_ NB211_210.out _; (with_reducible repeat (first | refine blk_drewN ?_ _ | refine blk_drew ?_ | refine blk_alloc ?_ _)); refine blk_far ?_ NB211_210.out _; (with_reducible repeat (first | refine blk_drewN ?_ _ | refine blk_drew ?_ | refine blk_alloc ?_ _)); exact BK211.out) hb); have n5_ := Aside0.mk (below_step (by repeat (first | (with_reducible first | exact HB.out | apply below_alloc | apply pw_below_drewN | apply below_drew1 | refine below_set ?_ GE210.out | refine below_set ?_ GE211.out) | exact HB.out)) hb); clear HO_10; clear BK180; clear BK186; clear BK210; clear BK211; clear HB; have HO_10 := n0_; have BK180 := n1_; have BK186 := n2_; have BK210 := n3_; have BK211 := n4_; have HB := n5_; clear n0_ n1_ n2_ n3_ n4_ n5_; (try clear hb); (try clear hb2); (try clear hk); (try clear hi)) | ((with_reducible refine gate_dst (N := 15) rfl ?_); (try (refine gate_guard (by rfl) ?_; dsimp only)); refine box_event ?hg (N := 15) ?hd (cs := #[.float .f64 0, .float .f64 0]) (t := 34) ?hr ?_; (case hd => rfl); (case hg => rfl); (case hr => first | (go_simp; done) | (go_simp; rfl)); intro gb214 hg w134 hbox hb; have n0_ := Aside0.mk (Kd.R_below (by exact HO_10.out) hb); have n1_ := Aside0.mk (blk_below (g := gb180) (o := .cells #[.float .f64 b_ft177, .float .f64 b_ft179] 34 (0, 0)) (by exact BK180.out) hb); have n2_ := Aside0.mk (blk_below (g := gb186) (o := .cells #[.float .f64 b_fr185_0, .float .f64 b_fr185_1] 34 (0, 0)) (by exact BK186.out) hb); have n3_ := Aside0.mk (blk_below (g := gb210) (o := .cells #[.float .f64 b_t206, .float .f64 b_t207] 34 (0, 0)) (by exact BK210.out) hb); have n4_ := Aside0.mk (blk_below (g := gb211) (o := .cells #[.float .f64 b_t208, .float .f64 b_t209] 34 (0, 0)) (by exact BK211.out) hb); have n5_ := Aside0.mk (below_step (by exact HB.out) hb); have n6_ := Aside0.mk (hbox); have n7_ := Aside0.mk ((by rw [hg]; exact (below_size (by exact HB.out)) : w.heap.size ≤ gb214)); have n8_ := Aside0.mk ((n7_.out)); have n9_ := Aside0.mk ((by rw [hg]; exact Nat.ne_of_lt (blk_lt (g := gb180) (o := .cells #[.float .f64 b_ft177, .float .f64 b_ft179] 34 (0, 0)) (by exact BK180.out)) : gb180 ≠ gb214)); have n10_ := Aside0.mk ((n9_.out.symm)); have n11_ := Aside0.mk ((by rw [hg]; exact Nat.ne_of_lt (blk_lt (g := gb186) (o := .cells #[.float .f64 b_fr185_0, .float .f64 b_fr185_1] 34 (0, 0)) (by exact BK186.out)) : gb186 ≠ gb214)); have n12_ := Aside0.mk ((n11_.out.symm)); have n13_ := Aside0.mk ((by rw [hg]; exact Nat.ne_of_lt (blk_lt (g := gb210) (o := .cells #[.float .f64 b_t206, .float .f64 b_t207] 34 (0, 0)) (by exact BK210.out)) : gb210 ≠ gb214)); have n14_ := Aside0.mk ((n13_.out.symm)); have n15_ := Aside0.mk ((by rw [hg]; exact Nat.ne_of_lt (blk_lt (g := gb211) (o := .cells #[.float .f64 b_t208, .float .f64 b_t209] 34 (0, 0)) (by exact BK211.out)) : gb211 ≠ gb214)); have n16_ := Aside0.mk ((n15_.out.symm)); clear HO_10; clear BK180; clear BK186; clear BK210; clear BK211; clear HB; have HO_10 := n0_; have BK180 := n1_; have BK186 := n2_; have BK210 := n3_; have BK211 := n4_; have HB := n5_; have BK214 := n6_; have GW214 := n7_; have GE214 := n8_; have NB180_214 := n9_; have NB214_180 := n10_; have NB186_214 := n11_; have NB214_186 := n12_; have NB210_214 := n13_; have NB214_210 := n14_; have NB211_214 := n15_; have NB214_211 := n16_; clear n0_ n1_ n2_ n3_ n4_ n5_ n6_ n7_ n8_ n9_ n10_ n11_ n12_ n13_ n14_ n15_ n16_; clear hb hbox hg; have hnb135 := NB214_180.out; have hnc135 := NB180_214.out; have hnb136 := NB214_186.out; have hnc136 := NB186_214.out; have hnb137 := NB214_210.out; have hnc137 := NB210_214.out; have hnb138 := NB214_211.out; have hnc138 := NB211_214.out; have hcz139_0 : w134.cell? ⟨gb214, 0, none⟩ = some (.float .f64 0) := (blk_cell BK214.out 0).trans rfl; have hcz139_1 : w134.cell? ⟨gb214, 1, none⟩ = some (.float .f64 0) := (blk_cell BK214.out 1).trans rfl; have hfz139_0 := blk_frozen BK214.out 0; have hfz139_1 := blk_frozen BK214.out 1; have hcz140_0 : w134.cell? ⟨gb210, 0, none⟩ = some (.float .f64 b_t206) := (blk_cell BK210.out 0).trans rfl; have hcz140_1 : w134.cell? ⟨gb210, 1, none⟩ = some (.float .f64 b_t207) := (blk_cell BK210.out 1).trans rfl; have hfz140_0 := blk_frozen BK210.out 0; have hfz140_1 := blk_frozen BK210.out 1; have hcz141_0 : w134.cell? ⟨gb211, 0, none⟩ = some (.float .f64 b_t208) := (blk_cell BK211.out 0).trans rfl; have hcz141_1 : w134.cell? ⟨gb211, 1, none⟩ = some (.float .f64 b_t209) := (blk_cell BK211.out 1).trans rfl; have hfz141_0 := blk_frozen BK211.out 0; have hfz141_1 := blk_frozen BK211.out 1; have hcz142_0 : w134.cell? ⟨gb180, 0, none⟩ = some (.float .f64 b_ft177) := (blk_cell BK180.out 0).trans rfl; have hcz142_1 : w134.cell? ⟨gb180, 1, none⟩ = some (.float .f64 b_ft179) := (blk_cell BK180.out 1).trans rfl; have hfz142_0 := blk_frozen BK180.out 0; have hfz142_1 := blk_frozen BK180.out 1; have hcz143_0 : w134.cell? ⟨gb186, 0, none⟩ = some (.float .f64 b_fr185_0) := (blk_cell BK186.out 0).trans rfl; have hcz143_1 : w134.cell? ⟨gb186, 1, none⟩ = some (.float .f64 b_fr185_1) := (blk_cell BK186.out 1).trans rfl; have hfz143_0 := blk_frozen BK186.out 0; have hfz143_1 := blk_frozen BK186.out 1) | ((with_reducible refine gate_dst (N := 137) rfl ?_); (try (refine gate_guard (by rfl) ?_; dsimp only)); (try (refine gate_guard (by rfl) ?_; dsimp only)); refine fop_event rfl (N := 137) rfl (op := .add) (by simp) rfl .f64 b_ft177 b_fr185_0 ft177 fr185_0 rfl rfl hF_ft177 hF_fr185_0 ?_; intro b_ft215 nf_ hF_; replace hF_ := hF_.trans Nft215.out.symm; have hF_ft215 := hF_; clear hF_))
                go_ret
                exact ⟨by first | rfl | (simp [errW_none, errW_some] <;> rfl) | (simp only [← hji8]; first | rfl | (simp [errW_none, errW_some] <;> rfl)) | (simp [*, errW_none, errW_some] <;> rfl), by repeat (first | (with_reducible first | exact HB.out | apply below_alloc | apply pw_below_drewN | apply below_drew1 | refine below_set ?_ GE214.out) | exact HB.out)⟩
              ·rw [if_neg c90] at H
               have c90b0 : (fcmp .eql .f64 t212 (cn .f64 0)) = false := by simpa using c90
               clear c90
               obtain rfl := Option.some.inj H
               have hnb144 := NB180_186.out
               have hnc144 := NB186_180.out
               have hcz145_0 : wr.cell? ⟨gb180, 0, none⟩ = some (.float .f64 b_ft177) := (blk_cell BK180.out 0).trans rfl
               have hcz145_1 : wr.cell? ⟨gb180, 1, none⟩ = some (.float .f64 b_ft179) := (blk_cell BK180.out 1).trans rfl
               have hfz145_0 := blk_frozen BK180.out 0
               have hfz145_1 := blk_frozen BK180.out 1
               have hcz146_0 : wr.cell? ⟨gb186, 0, none⟩ = some (.float .f64 b_fr185_0) := (blk_cell BK186.out 0).trans rfl
               have hcz146_1 : wr.cell? ⟨gb186, 1, none⟩ = some (.float .f64 b_fr185_1) := (blk_cell BK186.out 1).trans rfl
               have hfz146_0 := blk_frozen BK186.out 0
               have hfz146_1 := blk_frozen BK186.out 1
               go_wp2_with (first | ((with_reducible refine gate_callee (f := 53) rfl ?_); refine goesL_ (some 116) rfl rfl Try.func53 (by kernel_rfl) rfl #[.agg #[.float .f64 b_ft177, .float .f64 b_ft179], .agg #[.float .f64 b_fr185_0, .float .f64 b_fr185_1], .agg #[.float .f64 b_ft177, .float .f64 b_ft179], .agg #[.float .f64 b_fr185_0, .float .f64 b_fr185_1]] rfl (by (try simp only [List.map_toArray, List.map_cons, List.map_nil]); first | done | rfl | (simp only [List.length_drop, List.length_take]; rfl)) ?_; (with_reducible refine (impl_Flutter.calls b_ft177 ft177 b_ft179 ft179 b_fr185_0 fr185_0 b_fr185_1 fr185_1 b_ft177 ft177 b_ft179 ft179 b_fr185_0 fr185_0 b_fr185_1 fr185_1 t206 t207 t208 t209 _ ?side1 ?side2 ?side3 ?side4 ?side5 ?side6 ?side7 ?side8 A85.out).mono ?_); (case side1 => exact hF_ft177); (case side2 => exact hF_ft179); (case side3 => exact hF_fr185_0); (case side4 => exact hF_fr185_1); (case side5 => exact hF_ft177); (case side6 => exact hF_ft179); (case side7 => exact hF_fr185_0); (case side8 => exact hF_fr185_1); rintro e w147 ⟨b_t206, b_t207, b_t208, b_t209, rfl, hF_t206, hF_t207, hF_t208, hF_t209, hb⟩; refine ⟨_, rfl, ?_⟩; have n0_ := Aside0.mk (Kd.R_below (by exact HO_10.out) hb); have n1_ := Aside0.mk (blk_below (g := gb180) (o := .cells #[.float .f64 b_ft177, .float .f64 b_ft179] 34 (0, 0)) (by exact BK180.out) hb); have n2_ := Aside0.mk (blk_below (g := gb186) (o := .cells #[.float .f64 b_fr185_0, .float .f64 b_fr185_1] 34 (0, 0)) (by exact BK186.out) hb); have n3_ := Aside0.mk (below_step (by exact HB.out) hb); clear HO_10; clear BK180; clear BK186; clear HB; have HO_10 := n0_; have BK180 := n1_; have BK186 := n2_; have HB := n3_; clear n0_ n1_ n2_ n3_; (try clear hb); (try clear hb2); (try clear hk); (try clear hi)) | ((with_reducible refine gate_dst (N := 13) rfl ?_); (try (refine gate_guard (by rfl) ?_; dsimp only)); refine box_event ?hg (N := 13) ?hd (cs := #[.float .f64 0, .float .f64 0]) (t := 34) ?hr ?_; (case hd => rfl); (case hg => rfl); (case hr => first | (go_simp; done) | (go_simp; rfl)); intro gb210 hg w148 hbox hb; have n0_ := Aside0.mk (Kd.R_below (by exact HO_10.out) hb); have n1_ := Aside0.mk (blk_below (g := gb180) (o := .cells #[.float .f64 b_ft177, .float .f64 b_ft179] 34 (0, 0)) (by exact BK180.out) hb); have n2_ := Aside0.mk (blk_below (g := gb186) (o := .cells #[.float .f64 b_fr185_0, .float .f64 b_fr185_1] 34 (0, 0)) (by exact BK186.out) hb); have n3_ := Aside0.mk (below_step (by exact HB.out) hb); have n4_ := Aside0.mk (hbox); have n5_ := Aside0.mk ((by rw [hg]; exact (below_size (by exact HB.out)) : w.heap.size ≤ gb210)); have n6_ := Aside0.mk ((n5_.out)); have n7_ := Aside0.mk ((by rw [hg]; exact Nat.ne_of_lt (blk_lt (g := gb180) (o := .cells #[.float .f64 b_ft177, .float .f64 b_ft179] 34 (0, 0)) (by exact BK180.out)) : gb180 ≠ gb210)); have n8_ := Aside0.mk ((n7_.out.symm)); have n9_ := Aside0.mk ((by rw [hg]; exact Nat.ne_of_lt (blk_lt (g := gb186) (o := .cells #[.float .f64 b_fr185_0, .float .f64 b_fr185_1] 34 (0, 0)) (by exact BK186.out)) : gb186 ≠ gb210)); have n10_ := Aside0.mk ((n9_.out.symm)); clear HO_10; clear BK180; clear BK186; clear HB; have HO_10 := n0_; have BK180 := n1_; have BK186 := n2_; have HB := n3_; have BK210 := n4_; have GW210 := n5_; have GE210 := n6_; have NB180_210 := n7_; have NB210_180 := n8_; have NB186_210 := n9_; have NB210_186 := n10_; clear n0_ n1_ n2_ n3_ n4_ n5_ n6_ n7_ n8_ n9_ n10_; clear hb hbox hg) | ((with_reducible refine gate_dst (N := 14) rfl ?_); (try (refine gate_guard (by rfl) ?_; dsimp only)); refine box_event ?hg (N := 14) ?hd (cs := #[.float .f64 0, .float .f64 0]) (t := 34) ?hr ?_; (case hd => rfl); (case hg => rfl); (case hr => first | (go_simp; done) | (go_simp; rfl)); intro gb211 hg w149 hbox hb; have n0_ := Aside0.mk (Kd.R_below (by exact HO_10.out) hb); have n1_ := Aside0.mk (blk_below (g := gb180) (o := .cells #[.float .f64 b_ft177, .float .f64 b_ft179] 34 (0, 0)) (by exact BK180.out) hb); have n2_ := Aside0.mk (blk_below (g := gb186) (o := .cells #[.float .f64 b_fr185_0, .float .f64 b_fr185_1] 34 (0, 0)) (by exact BK186.out) hb); have n3_ := Aside0.mk (blk_below (g := gb210) (o := .cells #[.float .f64 0, .float .f64 0] 34 (0, 0)) (by exact BK210.out) hb); have n4_ := Aside0.mk (below_step (by exact HB.out) hb); have n5_ := Aside0.mk (hbox); have n6_ := Aside0.mk ((by rw [hg]; exact (below_size (by exact HB.out)) : w.heap.size ≤ gb211)); have n7_ := Aside0.mk ((n6_.out)); have n8_ := Aside0.mk ((by rw [hg]; exact Nat.ne_of_lt (blk_lt (g := gb180) (o := .cells #[.float .f64 b_ft177, .float .f64 b_ft179] 34 (0, 0)) (by exact BK180.out)) : gb180 ≠ gb211)); have n9_ := Aside0.mk ((n8_.out.symm)); have n10_ := Aside0.mk ((by rw [hg]; exact Nat.ne_of_lt (blk_lt (g := gb186) (o := .cells #[.float .f64 b_fr185_0, .float .f64 b_fr185_1] 34 (0, 0)) (by exact BK186.out)) : gb186 ≠ gb211)); have n11_ := Aside0.mk ((n10_.out.symm)); have n12_ := Aside0.mk ((by rw [hg]; exact Nat.ne_of_lt (blk_lt (g := gb210) (o := .cells #[.float .f64 0, .float .f64 0] 34 (0, 0)) (by exact BK210.out)) : gb210 ≠ gb211)); have n13_ := Aside0.mk ((n12_.out.symm)); clear HO_10; clear BK180; clear BK186; clear BK210; clear HB; have HO_10 := n0_; have BK180 := n1_; have BK186 := n2_; have BK210 := n3_; have HB := n4_; have BK211 := n5_; have GW211 := n6_; have GE211 := n7_; have NB180_211 := n8_; have NB211_180 := n9_; have NB186_211 := n10_; have NB211_186 := n11_; have NB210_211 := n12_; have NB211_210 := n13_; clear n0_ n1_ n2_ n3_ n4_ n5_ n6_ n7_ n8_ n9_ n10_ n11_ n12_ n13_; clear hb hbox hg; have hnb150 := NB210_180.out; have hnc150 := NB180_210.out; have hnb151 := NB210_186.out; have hnc151 := NB186_210.out; have hnb152 := NB210_211.out; have hnc152 := NB211_210.out; have hcz153_0 : w149.cell? ⟨gb210, 0, none⟩ = some (.float .f64 0) := (blk_cell BK210.out 0).trans rfl; have hcz153_1 : w149.cell? ⟨gb210, 1, none⟩ = some (.float .f64 0) := (blk_cell BK210.out 1).trans rfl; have hfz153_0 := blk_frozen BK210.out 0; have hfz153_1 := blk_frozen BK210.out 1; have hnb154 := NB211_180.out; have hnc154 := NB180_211.out; have hnb155 := NB211_186.out; have hnc155 := NB186_211.out; have hcz156_0 : w149.cell? ⟨gb211, 0, none⟩ = some (.float .f64 0) := (blk_cell BK211.out 0).trans rfl; have hcz156_1 : w149.cell? ⟨gb211, 1, none⟩ = some (.float .f64 0) := (blk_cell BK211.out 1).trans rfl; have hfz156_0 := blk_frozen BK211.out 0; have hfz156_1 := blk_frozen BK211.out 1; have hcz157_0 : w149.cell? ⟨gb180, 0, none⟩ = some (.float .f64 b_ft177) := (blk_cell BK180.out 0).trans rfl; have hcz157_1 : w149.cell? ⟨gb180, 1, none⟩ = some (.float .f64 b_ft179) := (blk_cell BK180.out 1).trans rfl; have hfz157_0 := blk_frozen BK180.out 0; have hfz157_1 := blk_frozen BK180.out 1) | ((with_reducible refine gate_callee (f := 54) rfl ?_); refine goesL_ (some 121) rfl rfl Try.func54 (by kernel_rfl) rfl #[.agg #[.float .f64 b_ft177, .float .f64 b_ft179], .agg #[.float .f64 b_ft177, .float .f64 b_ft179]] rfl (by (try simp only [List.map_toArray, List.map_cons, List.map_nil]); first | done | rfl | (simp only [List.length_drop, List.length_take]; rfl)) ?_; (with_reducible refine (impl_CxLess.calls b_ft177 ft177 b_ft179 ft179 b_ft177 ft177 b_ft179 ft179 t212 t213 _ ?side1 ?side2 ?side3 ?side4 A86.out).mono ?_); (case side1 => exact hF_ft177); (case side2 => exact hF_ft179); (case side3 => exact hF_ft177); (case side4 => exact hF_ft179); rintro e w158 ⟨b_t212, b_t213, rfl, hF_t212, hF_t213, hb⟩; refine ⟨_, rfl, ?_⟩; have n0_ := Aside0.mk (Kd.R_below (by (with_reducible repeat (first | apply Kd.R_alloc | apply Kd.R_drewN | apply Kd.R_drew)); exact (Kd.R_mono (Kd.R_mono (Kd.R_far (p := ⟨gb211, 1, none⟩) (Kd.R_far (p := ⟨gb211, 0, none⟩) (Kd.R_far (p := ⟨gb210, 1, none⟩) (Kd.R_far (p := ⟨gb210, 0, none⟩) (Kd.R_types (Kd.R_types HO_10.out BK210.out (by decide)) BK211.out (by decide)) (fun _ hk => hk.1.2) (.float .f64 b_t206)) (fun _ hk => hk.1.2) (.float .f64 b_t207)) (fun _ hk => hk.2) (.float .f64 b_t208)) (fun _ hk => hk.2) (.float .f64 b_t209)) (fun _ h_ => h_.1)) (fun _ h_ => h_.1))) hb); have n1_ := Aside0.mk (blk_below (g := gb180) (o := .cells #[.float .f64 b_ft177, .float .f64 b_ft179] 34 (0, 0)) (by (with_reducible repeat (first | refine blk_drewN ?_ _ | refine blk_drew ?_ | refine blk_alloc ?_ _)); refine blk_far ?_ NB180_211.out _; (with_reducible repeat (first | refine blk_drewN ?_ _ | refine blk_drew ?_ | refine blk_alloc ?_ _)); refine blk_far ?_ NB180_211.out _; (with_reducible repeat (first | refine blk_drewN ?_ _ | refine blk_drew ?_ | refine blk_alloc ?_ _)); refine blk_far ?_ NB180_210.out _; (with_reducible repeat (first | refine blk_drewN ?_ _ | refine blk_drew ?_ | refine blk_alloc ?_ _)); refine blk_far ?_ NB180_210.out _; (with_reducible repeat (first | refine blk_drewN ?_ _ | refine blk_drew ?_ | refine blk_alloc ?_ _)); exact BK180.out) hb); have n2_ := Aside0.mk (blk_below (g := gb186) (o := .cells #[.float .f64 b_fr185_0, .float .f64 b_fr185_1] 34 (0, 0)) (by (with_reducible repeat (first | refine blk_drewN ?_ _ | refine blk_drew ?_ | refine blk_alloc ?_ _)); refine blk_far ?_ NB186_211.out _; (with_reducible repeat (first | refine blk_drewN ?_ _ | refine blk_drew ?_ | refine blk_alloc ?_ _)); refine blk_far ?_ NB186_211.out _; (with_reducible repeat (first | refine blk_drewN ?_ _ | refine blk_drew ?_ | refine blk_alloc ?_ _)); refine blk_far ?_ NB186_210.out _; (with_reducible repeat (first | refine blk_drewN ?_ _ | refine blk_drew ?_ | refine blk_alloc ?_ _)); refine blk_far ?_ NB186_210.out _; (with_reducible repeat (first | refine blk_drewN ?_ _ | refine blk_drew ?_ | refine blk_alloc ?_ _)); exact BK186.out) hb); have n3_ := Aside0.mk (blk_below (g := gb210) (o := .cells #[.float .f64 b_t206, .float .f64 b_t207] 34 (0, 0)) (by (with_reducible repeat (first | refine blk_drewN ?_ _ | refine blk_drew ?_ | refine blk_alloc ?_ _)); refine blk_far ?_ NB210_211.out _; (with_reducible repeat (first | refine blk_drewN ?_ _ | refine blk_drew ?_ | refine blk_alloc ?_ _)); refine blk_far ?_ NB210_211.out _; (with_reducible repeat (first | refine blk_drewN ?_ _ | refine blk_drew ?_ | refine blk_alloc ?_ _)); refine blk_put (cs := #[.float .f64 b_t206, .float .f64 0]) ?_ 1 _ rfl; (with_reducible repeat (first | refine blk_drewN ?_ _ | refine blk_drew ?_ | refine blk_alloc ?_ _)); refine blk_put (cs := #[.float .f64 0, .float .f64 0]) ?_ 0 _ rfl; (with_reducible repeat (first | refine blk_drewN ?_ _ | refine blk_drew ?_ | refine blk_alloc ?_ _)); exact BK210.out) hb); have n4_ := Aside0.mk (blk_below (g := gb211) (o := .cells #[.float .f64 b_t208, .float .f64 b_t209] 34 (0, 0)) (by (with_reducible repeat (first | refine blk_drewN ?_ _ | refine blk_drew ?_ | refine blk_alloc ?_ _)); refine blk_put (cs := #[.float .f64 b_t208, .float .f64 0]) ?_ 1 _ rfl; (with_reducible repeat (first | refine blk_drewN ?_ _ | refine blk_drew ?_ | refine blk_alloc ?_ _)); refine blk_put (cs := #[.float .f64 0, .float .f64 0]) ?_ 0 _ rfl; (with_reducible repeat (first | refine blk_drewN ?_ _ | refine blk_drew ?_ | refine blk_alloc ?_ _)); refine blk_far ?_ NB211_210.out _; (with_reducible repeat (first | refine blk_drewN ?_ _ | refine blk_drew ?_ | refine blk_alloc ?_ _)); refine blk_far ?_ NB211_210.out _; (with_reducible repeat (first | refine blk_drewN ?_ _ | refine blk_drew ?_ | refine blk_alloc ?_ _)); exact BK211.out) hb); have n5_ := Aside0.mk (below_step (by repeat (first | (with_reducible first | exact HB.out | apply below_alloc | apply pw_below_drewN | apply below_drew1 | refine below_set ?_ GE210.out | refine below_set ?_ GE211.out) | exact HB.out)) hb); clear HO_10; clear BK180; clear BK186; clear BK210; clear BK211; clear HB; have HO_10 := n0_; have BK180 := n1_; have BK186 := n2_; have BK210 := n3_; have BK211 := n4_; have HB := n5_; clear n0_ n1_ n2_ n3_ n4_ n5_; (try clear hb); (try clear hb2); (try clear hk); (try clear hi)) | ((with_reducible refine gate_dst (N := 15) rfl ?_); (try (refine gate_guard (by rfl) ?_; dsimp only)); refine box_event ?hg (N := 15) ?hd (cs := #[.float .f64 0, .float .f64 0]) (t := 34) ?hr ?_; (case hd => rfl); (case hg => rfl); (case hr => first | (go_simp; done) | (go_simp; rfl)); intro gb214 hg w159 hbox hb; have n0_ := Aside0.mk (Kd.R_below (by exact HO_10.out) hb); have n1_ := Aside0.mk (blk_below (g := gb180) (o := .cells #[.float .f64 b_ft177, .float .f64 b_ft179] 34 (0, 0)) (by exact BK180.out) hb); have n2_ := Aside0.mk (blk_below (g := gb186) (o := .cells #[.float .f64 b_fr185_0, .float .f64 b_fr185_1] 34 (0, 0)) (by exact BK186.out) hb); have n3_ := Aside0.mk (blk_below (g := gb210) (o := .cells #[.float .f64 b_t206, .float .f64 b_t207] 34 (0, 0)) (by exact BK210.out) hb); have n4_ := Aside0.mk (blk_below (g := gb211) (o := .cells #[.float .f64 b_t208, .float .f64 b_t209] 34 (0, 0)) (by exact BK211.out) hb); have n5_ := Aside0.mk (below_step (by exact HB.out) hb); have n6_ := Aside0.mk (hbox); have n7_ := Aside0.mk ((by rw [hg]; exact (below_size (by exact HB.out)) : w.heap.size ≤ gb214)); have n8_ := Aside0.mk ((n7_.out)); have n9_ := Aside0.mk ((by rw [hg]; exact Nat.ne_of_lt (blk_lt (g := gb180) (o := .cells #[.float .f64 b_ft177, .float .f64 b_ft179] 34 (0, 0)) (by exact BK180.out)) : gb180 ≠ gb214)); have n10_ := Aside0.mk ((n9_.out.symm)); have n11_ := Aside0.mk ((by rw [hg]; exact Nat.ne_of_lt (blk_lt (g := gb186) (o := .cells #[.float .f64 b_fr185_0, .float .f64 b_fr185_1] 34 (0, 0)) (by exact BK186.out)) : gb186 ≠ gb214)); have n12_ := Aside0.mk ((n11_.out.symm)); have n13_ := Aside0.mk ((by rw [hg]; exact Nat.ne_of_lt (blk_lt (g := gb210) (o := .cells #[.float .f64 b_t206, .float .f64 b_t207] 34 (0, 0)) (by exact BK210.out)) : gb210 ≠ gb214)); have n14_ := Aside0.mk ((n13_.out.symm)); have n15_ := Aside0.mk ((by rw [hg]; exact Nat.ne_of_lt (blk_lt (g := gb211) (o := .cells #[.float .f64 b_t208, .float .f64 b_t209] 34 (0, 0)) (by exact BK211.out)) : gb211 ≠ gb214)); have n16_ := Aside0.mk ((n15_.out.symm)); clear HO_10; clear BK180; clear BK186; clear BK210; clear BK211; clear HB; have HO_10 := n0_; have BK180 := n1_; have BK186 := n2_; have BK210 := n3_; have BK211 := n4_; have HB := n5_; have BK214 := n6_; have GW214 := n7_; have GE214 := n8_; have NB180_214 := n9_; have NB214_180 := n10_; have NB186_214 := n11_; have NB214_186 := n12_; have NB210_214 := n13_; have NB214_210 := n14_; have NB211_214 := n15_; have NB214_211 := n16_; clear n0_ n1_ n2_ n3_ n4_ n5_ n6_ n7_ n8_ n9_ n10_ n11_ n12_ n13_ n14_ n15_ n16_; clear hb hbox hg; have hnb160 := NB214_180.out; have hnc160 := NB180_214.out; have hnb161 := NB214_186.out; have hnc161 := NB186_214.out; have hnb162 := NB214_210.out; have hnc162 := NB210_214.out; have hnb163 := NB214_211.out; have hnc163 := NB211_214.out; have hcz164_0 : w159.cell? ⟨gb214, 0, none⟩ = some (.float .f64 0) := (blk_cell BK214.out 0).trans rfl; have hcz164_1 : w159.cell? ⟨gb214, 1, none⟩ = some (.float .f64 0) := (blk_cell BK214.out 1).trans rfl; have hfz164_0 := blk_frozen BK214.out 0; have hfz164_1 := blk_frozen BK214.out 1; have hcz165_0 : w159.cell? ⟨gb210, 0, none⟩ = some (.float .f64 b_t206) := (blk_cell BK210.out 0).trans rfl; have hcz165_1 : w159.cell? ⟨gb210, 1, none⟩ = some (.float .f64 b_t207) := (blk_cell BK210.out 1).trans rfl; have hfz165_0 := blk_frozen BK210.out 0; have hfz165_1 := blk_frozen BK210.out 1; have hcz166_0 : w159.cell? ⟨gb211, 0, none⟩ = some (.float .f64 b_t208) := (blk_cell BK211.out 0).trans rfl; have hcz166_1 : w159.cell? ⟨gb211, 1, none⟩ = some (.float .f64 b_t209) := (blk_cell BK211.out 1).trans rfl; have hfz166_0 := blk_frozen BK211.out 0; have hfz166_1 := blk_frozen BK211.out 1; have hcz167_0 : w159.cell? ⟨gb180, 0, none⟩ = some (.float .f64 b_ft177) := (blk_cell BK180.out 0).trans rfl; have hcz167_1 : w159.cell? ⟨gb180, 1, none⟩ = some (.float .f64 b_ft179) := (blk_cell BK180.out 1).trans rfl; have hfz167_0 := blk_frozen BK180.out 0; have hfz167_1 := blk_frozen BK180.out 1; have hcz168_0 : w159.cell? ⟨gb186, 0, none⟩ = some (.float .f64 b_fr185_0) := (blk_cell BK186.out 0).trans rfl; have hcz168_1 : w159.cell? ⟨gb186, 1, none⟩ = some (.float .f64 b_fr185_1) := (blk_cell BK186.out 1).trans rfl; have hfz168_0 := blk_frozen BK186.out 0; have hfz168_1 := blk_frozen BK186.out 1) | ((with_reducible refine gate_dst (N := 137) rfl ?_); (try (refine gate_guard (by rfl) ?_; dsimp only)); (try (refine gate_guard (by rfl) ?_; dsimp only)); refine fop_event rfl (N := 137) rfl (op := .add) (by simp) rfl .f64 b_ft177 b_fr185_0 ft177 fr185_0 rfl rfl hF_ft177 hF_fr185_0 ?_; intro b_ft215 nf_ hF_; replace hF_ := hF_.trans Nft215.out.symm; have hF_ft215 := hF_; clear hF_))
               go_ret
               exact ⟨by first | rfl | (simp [errW_none, errW_some] <;> rfl) | (simp only [← hji8]; first | rfl | (simp [errW_none, errW_some] <;> rfl)) | (simp [*, errW_none, errW_some] <;> rfl), by repeat (first | (with_reducible first | exact HB.out | apply below_alloc | apply pw_below_drewN | apply below_drew1 | refine below_set ?_ GE214.out) | exact HB.out)⟩
             ·rw [if_neg c89] at H
              have c89b0 : (fcmp .eql .f64 t208 ft215) = false := by simpa using c89
              clear c89
              obtain rfl := Option.some.inj H
              have hnb169 := NB180_186.out
              have hnc169 := NB186_180.out
              have hcz170_0 : wr.cell? ⟨gb180, 0, none⟩ = some (.float .f64 b_ft177) := (blk_cell BK180.out 0).trans rfl
              have hcz170_1 : wr.cell? ⟨gb180, 1, none⟩ = some (.float .f64 b_ft179) := (blk_cell BK180.out 1).trans rfl
              have hfz170_0 := blk_frozen BK180.out 0
              have hfz170_1 := blk_frozen BK180.out 1
              have hcz171_0 : wr.cell? ⟨gb186, 0, none⟩ = some (.float .f64 b_fr185_0) := (blk_cell BK186.out 0).trans rfl
              have hcz171_1 : wr.cell? ⟨gb186, 1, none⟩ = some (.float .f64 b_fr185_1) := (blk_cell BK186.out 1).trans rfl
              have hfz171_0 := blk_frozen BK186.out 0
              have hfz171_1 := blk_frozen BK186.out 1
              go_wp2_with (first | ((with_reducible refine gate_callee (f := 53) rfl ?_); refine goesL_ (some 116) rfl rfl Try.func53 (by kernel_rfl) rfl #[.agg #[.float .f64 b_ft177, .float .f64 b_ft179], .agg #[.float .f64 b_fr185_0, .float .f64 b_fr185_1], .agg #[.float .f64 b_ft177, .float .f64 b_ft179], .agg #[.float .f64 b_fr185_0, .float .f64 b_fr185_1]] rfl (by (try simp only [List.map_toArray, List.map_cons, List.map_nil]); first | done | rfl | (simp only [List.length_drop, List.length_take]; rfl)) ?_; (with_reducible refine (impl_Flutter.calls b_ft177 ft177 b_ft179 ft179 b_fr185_0 fr185_0 b_fr185_1 fr185_1 b_ft177 ft177 b_ft179 ft179 b_fr185_0 fr185_0 b_fr185_1 fr185_1 t206 t207 t208 t209 _ ?side1 ?side2 ?side3 ?side4 ?side5 ?side6 ?side7 ?side8 A85.out).mono ?_); (case side1 => exact hF_ft177); (case side2 => exact hF_ft179); (case side3 => exact hF_fr185_0); (case side4 => exact hF_fr185_1); (case side5 => exact hF_ft177); (case side6 => exact hF_ft179); (case side7 => exact hF_fr185_0); (case side8 => exact hF_fr185_1); rintro e w172 ⟨b_t206, b_t207, b_t208, b_t209, rfl, hF_t206, hF_t207, hF_t208, hF_t209, hb⟩; refine ⟨_, rfl, ?_⟩; have n0_ := Aside0.mk (Kd.R_below (by exact HO_10.out) hb); have n1_ := Aside0.mk (blk_below (g := gb180) (o := .cells #[.float .f64 b_ft177, .float .f64 b_ft179] 34 (0, 0)) (by exact BK180.out) hb); have n2_ := Aside0.mk (blk_below (g := gb186) (o := .cells #[.float .f64 b_fr185_0, .float .f64 b_fr185_1] 34 (0, 0)) (by exact BK186.out) hb); have n3_ := Aside0.mk (below_step (by exact HB.out) hb); clear HO_10; clear BK180; clear BK186; clear HB; have HO_10 := n0_; have BK180 := n1_; have BK186 := n2_; have HB := n3_; clear n0_ n1_ n2_ n3_; (try clear hb); (try clear hb2); (try clear hk); (try clear hi)) | ((with_reducible refine gate_dst (N := 13) rfl ?_); (try (refine gate_guard (by rfl) ?_; dsimp only)); refine box_event ?hg (N := 13) ?hd (cs := #[.float .f64 0, .float .f64 0]) (t := 34) ?hr ?_; (case hd => rfl); (case hg => rfl); (case hr => first | (go_simp; done) | (go_simp; rfl)); intro gb210 hg w173 hbox hb; have n0_ := Aside0.mk (Kd.R_below (by exact HO_10.out) hb); have n1_ := Aside0.mk (blk_below (g := gb180) (o := .cells #[.float .f64 b_ft177, .float .f64 b_ft179] 34 (0, 0)) (by exact BK180.out) hb); have n2_ := Aside0.mk (blk_below (g := gb186) (o := .cells #[.float .f64 b_fr185_0, .float .f64 b_fr185_1] 34 (0, 0)) (by exact BK186.out) hb); have n3_ := Aside0.mk (below_step (by exact HB.out) hb); have n4_ := Aside0.mk (hbox); have n5_ := Aside0.mk ((by rw [hg]; exact (below_size (by exact HB.out)) : w.heap.size ≤ gb210)); have n6_ := Aside0.mk ((n5_.out)); have n7_ := Aside0.mk ((by rw [hg]; exact Nat.ne_of_lt (blk_lt (g := gb180) (o := .cells #[.float .f64 b_ft177, .float .f64 b_ft179] 34 (0, 0)) (by exact BK180.out)) : gb180 ≠ gb210)); have n8_ := Aside0.mk ((n7_.out.symm)); have n9_ := Aside0.mk ((by rw [hg]; exact Nat.ne_of_lt (blk_lt (g := gb186) (o := .cells #[.float .f64 b_fr185_0, .float .f64 b_fr185_1] 34 (0, 0)) (by exact BK186.out)) : gb186 ≠ gb210)); have n10_ := Aside0.mk ((n9_.out.symm)); clear HO_10; clear BK180; clear BK186; clear HB; have HO_10 := n0_; have BK180 := n1_; have BK186 := n2_; have HB := n3_; have BK210 := n4_; have GW210 := n5_; have GE210 := n6_; have NB180_210 := n7_; have NB210_180 := n8_; have NB186_210 := n9_; have NB210_186 := n10_; clear n0_ n1_ n2_ n3_ n4_ n5_ n6_ n7_ n8_ n9_ n10_; clear hb hbox hg) | ((with_reducible refine gate_dst (N := 14) rfl ?_); (try (refine gate_guard (by rfl) ?_; dsimp only)); refine box_event ?hg (N := 14) ?hd (cs := #[.float .f64 0, .float .f64 0]) (t := 34) ?hr ?_; (case hd => rfl); (case hg => rfl); (case hr => first | (go_simp; done) | (go_simp; rfl)); intro gb211 hg w174 hbox hb; have n0_ := Aside0.mk (Kd.R_below (by exact HO_10.out) hb); have n1_ := Aside0.mk (blk_below (g := gb180) (o := .cells #[.float .f64 b_ft177, .float .f64 b_ft179] 34 (0, 0)) (by exact BK180.out) hb); have n2_ := Aside0.mk (blk_below (g := gb186) (o := .cells #[.float .f64 b_fr185_0, .float .f64 b_fr185_1] 34 (0, 0)) (by exact BK186.out) hb); have n3_ := Aside0.mk (blk_below (g := gb210) (o := .cells #[.float .f64 0, .float .f64 0] 34 (0, 0)) (by exact BK210.out) hb); have n4_ := Aside0.mk (below_step (by exact HB.out) hb); have n5_ := Aside0.mk (hbox); have n6_ := Aside0.mk ((by rw [hg]; exact (below_size (by exact HB.out)) : w.heap.size ≤ gb211)); have n7_ := Aside0.mk ((n6_.out)); have n8_ := Aside0.mk ((by rw [hg]; exact Nat.ne_of_lt (blk_lt (g := gb180) (o := .cells #[.float .f64 b_ft177, .float .f64 b_ft179] 34 (0, 0)) (by exact BK180.out)) : gb180 ≠ gb211)); have n9_ := Aside0.mk ((n8_.out.symm)); have n10_ := Aside0.mk ((by rw [hg]; exact Nat.ne_of_lt (blk_lt (g := gb186) (o := .cells #[.float .f64 b_fr185_0, .float .f64 b_fr185_1] 34 (0, 0)) (by exact BK186.out)) : gb186 ≠ gb211)); have n11_ := Aside0.mk ((n10_.out.symm)); have n12_ := Aside0.mk ((by rw [hg]; exact Nat.ne_of_lt (blk_lt (g := gb210) (o := .cells #[.float .f64 0, .float .f64 0] 34 (0, 0)) (by exact BK210.out)) : gb210 ≠ gb211)); have n13_ := Aside0.mk ((n12_.out.symm)); clear HO_10; clear BK180; clear BK186; clear BK210; clear HB; have HO_10 := n0_; have BK180 := n1_; have BK186 := n2_; have BK210 := n3_; have HB := n4_; have BK211 := n5_; have GW211 := n6_; have GE211 := n7_; have NB180_211 := n8_; have NB211_180 := n9_; have NB186_211 := n10_; have NB211_186 := n11_; have NB210_211 := n12_; have NB211_210 := n13_; clear n0_ n1_ n2_ n3_ n4_ n5_ n6_ n7_ n8_ n9_ n10_ n11_ n12_ n13_; clear hb hbox hg; have hnb175 := NB210_180.out; have hnc175 := NB180_210.out; have hnb176 := NB210_186.out; have hnc176 := NB186_210.out; have hnb177 := NB210_211.out; have hnc177 := NB211_210.out; have hcz178_0 : w174.cell? ⟨gb210, 0, none⟩ = some (.float .f64 0) := (blk_cell BK210.out 0).trans rfl; have hcz178_1 : w174.cell? ⟨gb210, 1, none⟩ = some (.float .f64 0) := (blk_cell BK210.out 1).trans rfl; have hfz178_0 := blk_frozen BK210.out 0; have hfz178_1 := blk_frozen BK210.out 1; have hnb179 := NB211_180.out; have hnc179 := NB180_211.out; have hnb180 := NB211_186.out; have hnc180 := NB186_211.out; have hcz181_0 : w174.cell? ⟨gb211, 0, none⟩ = some (.float .f64 0) := (blk_cell BK211.out 0).trans rfl; have hcz181_1 : w174.cell? ⟨gb211, 1, none⟩ = some (.float .f64 0) := (blk_cell BK211.out 1).trans rfl; have hfz181_0 := blk_frozen BK211.out 0; have hfz181_1 := blk_frozen BK211.out 1; have hcz182_0 : w174.cell? ⟨gb180, 0, none⟩ = some (.float .f64 b_ft177) := (blk_cell BK180.out 0).trans rfl; have hcz182_1 : w174.cell? ⟨gb180, 1, none⟩ = some (.float .f64 b_ft179) := (blk_cell BK180.out 1).trans rfl; have hfz182_0 := blk_frozen BK180.out 0; have hfz182_1 := blk_frozen BK180.out 1) | ((with_reducible refine gate_callee (f := 54) rfl ?_); refine goesL_ (some 121) rfl rfl Try.func54 (by kernel_rfl) rfl #[.agg #[.float .f64 b_ft177, .float .f64 b_ft179], .agg #[.float .f64 b_ft177, .float .f64 b_ft179]] rfl (by (try simp only [List.map_toArray, List.map_cons, List.map_nil]); first | done | rfl | (simp only [List.length_drop, List.length_take]; rfl)) ?_; (with_reducible refine (impl_CxLess.calls b_ft177 ft177 b_ft179 ft179 b_ft177 ft177 b_ft179 ft179 t212 t213 _ ?side1 ?side2 ?side3 ?side4 A86.out).mono ?_); (case side1 => exact hF_ft177); (case side2 => exact hF_ft179); (case side3 => exact hF_ft177); (case side4 => exact hF_ft179); rintro e w183 ⟨b_t212, b_t213, rfl, hF_t212, hF_t213, hb⟩; refine ⟨_, rfl, ?_⟩; have n0_ := Aside0.mk (Kd.R_below (by (with_reducible repeat (first | apply Kd.R_alloc | apply Kd.R_drewN | apply Kd.R_drew)); exact (Kd.R_mono (Kd.R_mono (Kd.R_far (p := ⟨gb211, 1, none⟩) (Kd.R_far (p := ⟨gb211, 0, none⟩) (Kd.R_far (p := ⟨gb210, 1, none⟩) (Kd.R_far (p := ⟨gb210, 0, none⟩) (Kd.R_types (Kd.R_types HO_10.out BK210.out (by decide)) BK211.out (by decide)) (fun _ hk => hk.1.2) (.float .f64 b_t206)) (fun _ hk => hk.1.2) (.float .f64 b_t207)) (fun _ hk => hk.2) (.float .f64 b_t208)) (fun _ hk => hk.2) (.float .f64 b_t209)) (fun _ h_ => h_.1)) (fun _ h_ => h_.1))) hb); have n1_ := Aside0.mk (blk_below (g := gb180) (o := .cells #[.float .f64 b_ft177, .float .f64 b_ft179] 34 (0, 0)) (by (with_reducible repeat (first | refine blk_drewN ?_ _ | refine blk_drew ?_ | refine blk_alloc ?_ _)); refine blk_far ?_ NB180_211.out _; (with_reducible repeat (first | refine blk_drewN ?_ _ | refine blk_drew ?_ | refine blk_alloc ?_ _)); refine blk_far ?_ NB180_211.out _; (with_reducible repeat (first | refine blk_drewN ?_ _ | refine blk_drew ?_ | refine blk_alloc ?_ _)); refine blk_far ?_ NB180_210.out _; (with_reducible repeat (first | refine blk_drewN ?_ _ | refine blk_drew ?_ | refine blk_alloc ?_ _)); refine blk_far ?_ NB180_210.out _; (with_reducible repeat (first | refine blk_drewN ?_ _ | refine blk_drew ?_ | refine blk_alloc ?_ _)); exact BK180.out) hb); have n2_ := Aside0.mk (blk_below (g := gb186) (o := .cells #[.float .f64 b_fr185_0, .float .f64 b_fr185_1] 34 (0, 0)) (by (with_reducible repeat (first | refine blk_drewN ?_ _ | refine blk_drew ?_ | refine blk_alloc ?_ _)); refine blk_far ?_ NB186_211.out _; (with_reducible repeat (first | refine blk_drewN ?_ _ | refine blk_drew ?_ | refine blk_alloc ?_ _)); refine blk_far ?_ NB186_211.out _; (with_reducible repeat (first | refine blk_drewN ?_ _ | refine blk_drew ?_ | refine blk_alloc ?_ _)); refine blk_far ?_ NB186_210.out _; (with_reducible repeat (first | refine blk_drewN ?_ _ | refine blk_drew ?_ | refine blk_alloc ?_ _)); refine blk_far ?_ NB186_210.out _; (with_reducible repeat (first | refine blk_drewN ?_ _ | refine blk_drew ?_ | refine blk_alloc ?_ _)); exact BK186.out) hb); have n3_ := Aside0.mk (blk_below (g := gb210) (o := .cells #[.float .f64 b_t206, .float .f64 b_t207] 34 (0, 0)) (by (with_reducible repeat (first | refine blk_drewN ?_ _ | refine blk_drew ?_ | refine blk_alloc ?_ _)); refine blk_far ?_ NB210_211.out _; (with_reducible repeat (first | refine blk_drewN ?_ _ | refine blk_drew ?_ | refine blk_alloc ?_ _)); refine blk_far ?_ NB210_211.out _; (with_reducible repeat (first | refine blk_drewN ?_ _ | refine blk_drew ?_ | refine blk_alloc ?_ _)); refine blk_put (cs := #[.float .f64 b_t206, .float .f64 0]) ?_ 1 _ rfl; (with_reducible repeat (first | refine blk_drewN ?_ _ | refine blk_drew ?_ | refine blk_alloc ?_ _)); refine blk_put (cs := #[.float .f64 0, .float .f64 0]) ?_ 0 _ rfl; (with_reducible repeat (first | refine blk_drewN ?_ _ | refine blk_drew ?_ | refine blk_alloc ?_ _)); exact BK210.out) hb); have n4_ := Aside0.mk (blk_below (g := gb211) (o := .cells #[.float .f64 b_t208, .float .f64 b_t209] 34 (0, 0)) (by (with_reducible repeat (first | refine blk_drewN ?_ _ | refine blk_drew ?_ | refine blk_alloc ?_ _)); refine blk_put (cs := #[.float .f64 b_t208, .float .f64 0]) ?_ 1 _ rfl; (with_reducible repeat (first | refine blk_drewN ?_ _ | refine blk_drew ?_ | refine blk_alloc ?_ _)); refine blk_put (cs := #[.float .f64 0, .float .f64 0]) ?_ 0 _ rfl; (with_reducible repeat (first | refine blk_drewN ?_ _ | refine blk_drew ?_ | refine blk_alloc ?_ _)); refine blk_far ?_ NB211_210.out _; (with_reducible repeat (first | refine blk_drewN ?_ _ | refine blk_drew ?_ | refine blk_alloc ?_ _)); refine blk_far ?_ NB211_210.out _; (with_reducible repeat (first | refine blk_drewN ?_ _ | refine blk_drew ?_ | refine blk_alloc ?_ _)); exact BK211.out) hb); have n5_ := Aside0.mk (below_step (by repeat (first | (with_reducible first | exact HB.out | apply below_alloc | apply pw_below_drewN | apply below_drew1 | refine below_set ?_ GE210.out | refine below_set ?_ GE211.out) | exact HB.out)) hb); clear HO_10; clear BK180; clear BK186; clear BK210; clear BK211; clear HB; have HO_10 := n0_; have BK180 := n1_; have BK186 := n2_; have BK210 := n3_; have BK211 := n4_; have HB := n5_; clear n0_ n1_ n2_ n3_ n4_ n5_; (try clear hb); (try clear hb2); (try clear hk); (try clear hi)) | ((with_reducible refine gate_dst (N := 15) rfl ?_); (try (refine gate_guard (by rfl) ?_; dsimp only)); refine box_event ?hg (N := 15) ?hd (cs := #[.float .f64 0, .float .f64 0]) (t := 34) ?hr ?_; (case hd => rfl); (case hg => rfl); (case hr => first | (go_simp; done) | (go_simp; rfl)); intro gb214 hg w184 hbox hb; have n0_ := Aside0.mk (Kd.R_below (by exact HO_10.out) hb); have n1_ := Aside0.mk (blk_below (g := gb180) (o := .cells #[.float .f64 b_ft177, .float .f64 b_ft179] 34 (0, 0)) (by exact BK180.out) hb); have n2_ := Aside0.mk (blk_below (g := gb186) (o := .cells #[.float .f64 b_fr185_0, .float .f64 b_fr185_1] 34 (0, 0)) (by exact BK186.out) hb); have n3_ := Aside0.mk (blk_below (g := gb210) (o := .cells #[.float .f64 b_t206, .float .f64 b_t207] 34 (0, 0)) (by exact BK210.out) hb); have n4_ := Aside0.mk (blk_below (g := gb211) (o := .cells #[.float .f64 b_t208, .float .f64 b_t209] 34 (0, 0)) (by exact BK211.out) hb); have n5_ := Aside0.mk (below_step (by exact HB.out) hb); have n6_ := Aside0.mk (hbox); have n7_ := Aside0.mk ((by rw [hg]; exact (below_size (by exact HB.out)) : w.heap.size ≤ gb214)); have n8_ := Aside0.mk ((n7_.out)); have n9_ := Aside0.mk ((by rw [hg]; exact Nat.ne_of_lt (blk_lt (g := gb180) (o := .cells #[.float .f64 b_ft177, .float .f64 b_ft179] 34 (0, 0)) (by exact BK180.out)) : gb180 ≠ gb214)); have n10_ := Aside0.mk ((n9_.out.symm)); have n11_ := Aside0.mk ((by rw [hg]; exact Nat.ne_of_lt (blk_lt (g := gb186) (o := .cells #[.float .f64 b_fr185_0, .float .f64 b_fr185_1] 34 (0, 0)) (by exact BK186.out)) : gb186 ≠ gb214)); have n12_ := Aside0.mk ((n11_.out.symm)); have n13_ := Aside0.mk ((by rw [hg]; exact Nat.ne_of_lt (blk_lt (g := gb210) (o := .cells #[.float .f64 b_t206, .float .f64 b_t207] 34 (0, 0)) (by exact BK210.out)) : gb210 ≠ gb214)); have n14_ := Aside0.mk ((n13_.out.symm)); have n15_ := Aside0.mk ((by rw [hg]; exact Nat.ne_of_lt (blk_lt (g := gb211) (o := .cells #[.float .f64 b_t208, .float .f64 b_t209] 34 (0, 0)) (by exact BK211.out)) : gb211 ≠ gb214)); have n16_ := Aside0.mk ((n15_.out.symm)); clear HO_10; clear BK180; clear BK186; clear BK210; clear BK211; clear HB; have HO_10 := n0_; have BK180 := n1_; have BK186 := n2_; have BK210 := n3_; have BK211 := n4_; have HB := n5_; have BK214 := n6_; have GW214 := n7_; have GE214 := n8_; have NB180_214 := n9_; have NB214_180 := n10_; have NB186_214 := n11_; have NB214_186 := n12_; have NB210_214 := n13_; have NB214_210 := n14_; have NB211_214 := n15_; have NB214_211 := n16_; clear n0_ n1_ n2_ n3_ n4_ n5_ n6_ n7_ n8_ n9_ n10_ n11_ n12_ n13_ n14_ n15_ n16_; clear hb hbox hg; have hnb185 := NB214_180.out; have hnc185 := NB180_214.out; have hnb186 := NB214_186.out; have hnc186 := NB186_214.out; have hnb187 := NB214_210.out; have hnc187 := NB210_214.out; have hnb188 := NB214_211.out; have hnc188 := NB211_214.out; have hcz189_0 : w184.cell? ⟨gb214, 0, none⟩ = some (.float .f64 0) := (blk_cell BK214.out 0).trans rfl; have hcz189_1 : w184.cell? ⟨gb214, 1, none⟩ = some (.float .f64 0) := (blk_cell BK214.out 1).trans rfl; have hfz189_0 := blk_frozen BK214.out 0; have hfz189_1 := blk_frozen BK214.out 1; have hcz190_0 : w184.cell? ⟨gb210, 0, none⟩ = some (.float .f64 b_t206) := (blk_cell BK210.out 0).trans rfl; have hcz190_1 : w184.cell? ⟨gb210, 1, none⟩ = some (.float .f64 b_t207) := (blk_cell BK210.out 1).trans rfl; have hfz190_0 := blk_frozen BK210.out 0; have hfz190_1 := blk_frozen BK210.out 1; have hcz191_0 : w184.cell? ⟨gb211, 0, none⟩ = some (.float .f64 b_t208) := (blk_cell BK211.out 0).trans rfl; have hcz191_1 : w184.cell? ⟨gb211, 1, none⟩ = some (.float .f64 b_t209) := (blk_cell BK211.out 1).trans rfl; have hfz191_0 := blk_frozen BK211.out 0; have hfz191_1 := blk_frozen BK211.out 1; have hcz192_0 : w184.cell? ⟨gb180, 0, none⟩ = some (.float .f64 b_ft177) := (blk_cell BK180.out 0).trans rfl; have hcz192_1 : w184.cell? ⟨gb180, 1, none⟩ = some (.float .f64 b_ft179) := (blk_cell BK180.out 1).trans rfl; have hfz192_0 := blk_frozen BK180.out 0; have hfz192_1 := blk_frozen BK180.out 1; have hcz193_0 : w184.cell? ⟨gb186, 0, none⟩ = some (.float .f64 b_fr185_0) := (blk_cell BK186.out 0).trans rfl; have hcz193_1 : w184.cell? ⟨gb186, 1, none⟩ = some (.float .f64 b_fr185_1) := (blk_cell BK186.out 1).trans rfl; have hfz193_0 := blk_frozen BK186.out 0; have hfz193_1 := blk_frozen BK186.out 1) | ((with_reducible refine gate_dst (N := 137) rfl ?_); (try (refine gate_guard (by rfl) ?_; dsimp only)); (try (refine gate_guard (by rfl) ?_; dsimp only)); refine fop_event rfl (N := 137) rfl (op := .add) (by simp) rfl .f64 b_ft177 b_fr185_0 ft177 fr185_0 rfl rfl hF_ft177 hF_fr185_0 ?_; intro b_ft215 nf_ hF_; replace hF_ := hF_.trans Nft215.out.symm; have hF_ft215 := hF_; clear hF_))
              go_ret
              exact ⟨by first | rfl | (simp [errW_none, errW_some] <;> rfl) | (simp only [← hji8]; first | rfl | (simp [errW_none, errW_some] <;> rfl)) | (simp [*, errW_none, errW_some] <;> rfl), by repeat (first | (with_reducible first | exact HB.out | apply below_alloc | apply pw_below_drewN | apply below_drew1 | refine below_set ?_ GE214.out) | exact HB.out)⟩
            ·rw [if_neg c88] at H
             have c88b0 : (fcmp .eql .f64 t207 (cn .f64 0)) = false := by simpa using c88
             clear c88
             obtain rfl := Option.some.inj H
             have hnb194 := NB180_186.out
             have hnc194 := NB186_180.out
             have hcz195_0 : wr.cell? ⟨gb180, 0, none⟩ = some (.float .f64 b_ft177) := (blk_cell BK180.out 0).trans rfl
             have hcz195_1 : wr.cell? ⟨gb180, 1, none⟩ = some (.float .f64 b_ft179) := (blk_cell BK180.out 1).trans rfl
             have hfz195_0 := blk_frozen BK180.out 0
             have hfz195_1 := blk_frozen BK180.out 1
             have hcz196_0 : wr.cell? ⟨gb186, 0, none⟩ = some (.float .f64 b_fr185_0) := (blk_cell BK186.out 0).trans rfl
             have hcz196_1 : wr.cell? ⟨gb186, 1, none⟩ = some (.float .f64 b_fr185_1) := (blk_cell BK186.out 1).trans rfl
             have hfz196_0 := blk_frozen BK186.out 0
             have hfz196_1 := blk_frozen BK186.out 1
             go_wp2_with (first | ((with_reducible refine gate_callee (f := 53) rfl ?_); refine goesL_ (some 116) rfl rfl Try.func53 (by kernel_rfl) rfl #[.agg #[.float .f64 b_ft177, .float .f64 b_ft179], .agg #[.float .f64 b_fr185_0, .float .f64 b_fr185_1], .agg #[.float .f64 b_ft177, .float .f64 b_ft179], .agg #[.float .f64 b_fr185_0, .float .f64 b_fr185_1]] rfl (by (try simp only [List.map_toArray, List.map_cons, List.map_nil]); first | done | rfl | (simp only [List.length_drop, List.length_take]; rfl)) ?_; (with_reducible refine (impl_Flutter.calls b_ft177 ft177 b_ft179 ft179 b_fr185_0 fr185_0 b_fr185_1 fr185_1 b_ft177 ft177 b_ft179 ft179 b_fr185_0 fr185_0 b_fr185_1 fr185_1 t206 t207 t208 t209 _ ?side1 ?side2 ?side3 ?side4 ?side5 ?side6 ?side7 ?side8 A85.out).mono ?_); (case side1 => exact hF_ft177); (case side2 => exact hF_ft179); (case side3 => exact hF_fr185_0); (case side4 => exact hF_fr185_1); (case side5 => exact hF_ft177); (case side6 => exact hF_ft179); (case side7 => exact hF_fr185_0); (case side8 => exact hF_fr185_1); rintro e w197 ⟨b_t206, b_t207, b_t208, b_t209, rfl, hF_t206, hF_t207, hF_t208, hF_t209, hb⟩; refine ⟨_, rfl, ?_⟩; have n0_ := Aside0.mk (Kd.R_below (by exact HO_10.out) hb); have n1_ := Aside0.mk (blk_below (g := gb180) (o := .cells #[.float .f64 b_ft177, .float .f64 b_ft179] 34 (0, 0)) (by exact BK180.out) hb); have n2_ := Aside0.mk (blk_below (g := gb186) (o := .cells #[.float .f64 b_fr185_0, .float .f64 b_fr185_1] 34 (0, 0)) (by exact BK186.out) hb); have n3_ := Aside0.mk (below_step (by exact HB.out) hb); clear HO_10; clear BK180; clear BK186; clear HB; have HO_10 := n0_; have BK180 := n1_; have BK186 := n2_; have HB := n3_; clear n0_ n1_ n2_ n3_; (try clear hb); (try clear hb2); (try clear hk); (try clear hi)) | ((with_reducible refine gate_dst (N := 13) rfl ?_); (try (refine gate_guard (by rfl) ?_; dsimp only)); refine box_event ?hg (N := 13) ?hd (cs := #[.float .f64 0, .float .f64 0]) (t := 34) ?hr ?_; (case hd => rfl); (case hg => rfl); (case hr => first | (go_simp; done) | (go_simp; rfl)); intro gb210 hg w198 hbox hb; have n0_ := Aside0.mk (Kd.R_below (by exact HO_10.out) hb); have n1_ := Aside0.mk (blk_below (g := gb180) (o := .cells #[.float .f64 b_ft177, .float .f64 b_ft179] 34 (0, 0)) (by exact BK180.out) hb); have n2_ := Aside0.mk (blk_below (g := gb186) (o := .cells #[.float .f64 b_fr185_0, .float .f64 b_fr185_1] 34 (0, 0)) (by exact BK186.out) hb); have n3_ := Aside0.mk (below_step (by exact HB.out) hb); have n4_ := Aside0.mk (hbox); have n5_ := Aside0.mk ((by rw [hg]; exact (below_size (by exact HB.out)) : w.heap.size ≤ gb210)); have n6_ := Aside0.mk ((n5_.out)); have n7_ := Aside0.mk ((by rw [hg]; exact Nat.ne_of_lt (blk_lt (g := gb180) (o := .cells #[.float .f64 b_ft177, .float .f64 b_ft179] 34 (0, 0)) (by exact BK180.out)) : gb180 ≠ gb210)); have n8_ := Aside0.mk ((n7_.out.symm)); have n9_ := Aside0.mk ((by rw [hg]; exact Nat.ne_of_lt (blk_lt (g := gb186) (o := .cells #[.float .f64 b_fr185_0, .float .f64 b_fr185_1] 34 (0, 0)) (by exact BK186.out)) : gb186 ≠ gb210)); have n10_ := Aside0.mk ((n9_.out.symm)); clear HO_10; clear BK180; clear BK186; clear HB; have HO_10 := n0_; have BK180 := n1_; have BK186 := n2_; have HB := n3_; have BK210 := n4_; have GW210 := n5_; have GE210 := n6_; have NB180_210 := n7_; have NB210_180 := n8_; have NB186_210 := n9_; have NB210_186 := n10_; clear n0_ n1_ n2_ n3_ n4_ n5_ n6_ n7_ n8_ n9_ n10_; clear hb hbox hg) | ((with_reducible refine gate_dst (N := 14) rfl ?_); (try (refine gate_guard (by rfl) ?_; dsimp only)); refine box_event ?hg (N := 14) ?hd (cs := #[.float .f64 0, .float .f64 0]) (t := 34) ?hr ?_; (case hd => rfl); (case hg => rfl); (case hr => first | (go_simp; done) | (go_simp; rfl)); intro gb211 hg w199 hbox hb; have n0_ := Aside0.mk (Kd.R_below (by exact HO_10.out) hb); have n1_ := Aside0.mk (blk_below (g := gb180) (o := .cells #[.float .f64 b_ft177, .float .f64 b_ft179] 34 (0, 0)) (by exact BK180.out) hb); have n2_ := Aside0.mk (blk_below (g := gb186) (o := .cells #[.float .f64 b_fr185_0, .float .f64 b_fr185_1] 34 (0, 0)) (by exact BK186.out) hb); have n3_ := Aside0.mk (blk_below (g := gb210) (o := .cells #[.float .f64 0, .float .f64 0] 34 (0, 0)) (by exact BK210.out) hb); have n4_ := Aside0.mk (below_step (by exact HB.out) hb); have n5_ := Aside0.mk (hbox); have n6_ := Aside0.mk ((by rw [hg]; exact (below_size (by exact HB.out)) : w.heap.size ≤ gb211)); have n7_ := Aside0.mk ((n6_.out)); have n8_ := Aside0.mk ((by rw [hg]; exact Nat.ne_of_lt (blk_lt (g := gb180) (o := .cells #[.float .f64 b_ft177, .float .f64 b_ft179] 34 (0, 0)) (by exact BK180.out)) : gb180 ≠ gb211)); have n9_ := Aside0.mk ((n8_.out.symm)); have n10_ := Aside0.mk ((by rw [hg]; exact Nat.ne_of_lt (blk_lt (g := gb186) (o := .cells #[.float .f64 b_fr185_0, .float .f64 b_fr185_1] 34 (0, 0)) (by exact BK186.out)) : gb186 ≠ gb211)); have n11_ := Aside0.mk ((n10_.out.symm)); have n12_ := Aside0.mk ((by rw [hg]; exact Nat.ne_of_lt (blk_lt (g := gb210) (o := .cells #[.float .f64 0, .float .f64 0] 34 (0, 0)) (by exact BK210.out)) : gb210 ≠ gb211)); have n13_ := Aside0.mk ((n12_.out.symm)); clear HO_10; clear BK180; clear BK186; clear BK210; clear HB; have HO_10 := n0_; have BK180 := n1_; have BK186 := n2_; have BK210 := n3_; have HB := n4_; have BK211 := n5_; have GW211 := n6_; have GE211 := n7_; have NB180_211 := n8_; have NB211_180 := n9_; have NB186_211 := n10_; have NB211_186 := n11_; have NB210_211 := n12_; have NB211_210 := n13_; clear n0_ n1_ n2_ n3_ n4_ n5_ n6_ n7_ n8_ n9_ n10_ n11_ n12_ n13_; clear hb hbox hg; have hnb200 := NB210_180.out; have hnc200 := NB180_210.out; have hnb201 := NB210_186.out; have hnc201 := NB186_210.out; have hnb202 := NB210_211.out; have hnc202 := NB211_210.out; have hcz203_0 : w199.cell? ⟨gb210, 0, none⟩ = some (.float .f64 0) := (blk_cell BK210.out 0).trans rfl; have hcz203_1 : w199.cell? ⟨gb210, 1, none⟩ = some (.float .f64 0) := (blk_cell BK210.out 1).trans rfl; have hfz203_0 := blk_frozen BK210.out 0; have hfz203_1 := blk_frozen BK210.out 1; have hnb204 := NB211_180.out; have hnc204 := NB180_211.out; have hnb205 := NB211_186.out; have hnc205 := NB186_211.out; have hcz206_0 : w199.cell? ⟨gb211, 0, none⟩ = some (.float .f64 0) := (blk_cell BK211.out 0).trans rfl; have hcz206_1 : w199.cell? ⟨gb211, 1, none⟩ = some (.float .f64 0) := (blk_cell BK211.out 1).trans rfl; have hfz206_0 := blk_frozen BK211.out 0; have hfz206_1 := blk_frozen BK211.out 1; have hcz207_0 : w199.cell? ⟨gb180, 0, none⟩ = some (.float .f64 b_ft177) := (blk_cell BK180.out 0).trans rfl; have hcz207_1 : w199.cell? ⟨gb180, 1, none⟩ = some (.float .f64 b_ft179) := (blk_cell BK180.out 1).trans rfl; have hfz207_0 := blk_frozen BK180.out 0; have hfz207_1 := blk_frozen BK180.out 1) | ((with_reducible refine gate_callee (f := 54) rfl ?_); refine goesL_ (some 121) rfl rfl Try.func54 (by kernel_rfl) rfl #[.agg #[.float .f64 b_ft177, .float .f64 b_ft179], .agg #[.float .f64 b_ft177, .float .f64 b_ft179]] rfl (by (try simp only [List.map_toArray, List.map_cons, List.map_nil]); first | done | rfl | (simp only [List.length_drop, List.length_take]; rfl)) ?_; (with_reducible refine (impl_CxLess.calls b_ft177 ft177 b_ft179 ft179 b_ft177 ft177 b_ft179 ft179 t212 t213 _ ?side1 ?side2 ?side3 ?side4 A86.out).mono ?_); (case side1 => exact hF_ft177); (case side2 => exact hF_ft179); (case side3 => exact hF_ft177); (case side4 => exact hF_ft179); rintro e w208 ⟨b_t212, b_t213, rfl, hF_t212, hF_t213, hb⟩; refine ⟨_, rfl, ?_⟩; have n0_ := Aside0.mk (Kd.R_below (by (with_reducible repeat (first | apply Kd.R_alloc | apply Kd.R_drewN | apply Kd.R_drew)); exact (Kd.R_mono (Kd.R_mono (Kd.R_far (p := ⟨gb211, 1, none⟩) (Kd.R_far (p := ⟨gb211, 0, none⟩) (Kd.R_far (p := ⟨gb210, 1, none⟩) (Kd.R_far (p := ⟨gb210, 0, none⟩) (Kd.R_types (Kd.R_types HO_10.out BK210.out (by decide)) BK211.out (by decide)) (fun _ hk => hk.1.2) (.float .f64 b_t206)) (fun _ hk => hk.1.2) (.float .f64 b_t207)) (fun _ hk => hk.2) (.float .f64 b_t208)) (fun _ hk => hk.2) (.float .f64 b_t209)) (fun _ h_ => h_.1)) (fun _ h_ => h_.1))) hb); have n1_ := Aside0.mk (blk_below (g := gb180) (o := .cells #[.float .f64 b_ft177, .float .f64 b_ft179] 34 (0, 0)) (by (with_reducible repeat (first | refine blk_drewN ?_ _ | refine blk_drew ?_ | refine blk_alloc ?_ _)); refine blk_far ?_ NB180_211.out _; (with_reducible repeat (first | refine blk_drewN ?_ _ | refine blk_drew ?_ | refine blk_alloc ?_ _)); refine blk_far ?_ NB180_211.out _; (with_reducible repeat (first | refine blk_drewN ?_ _ | refine blk_drew ?_ | refine blk_alloc ?_ _)); refine blk_far ?_ NB180_210.out _; (with_reducible repeat (first | refine blk_drewN ?_ _ | refine blk_drew ?_ | refine blk_alloc ?_ _)); refine blk_far ?_ NB180_210.out _; (with_reducible repeat (first | refine blk_drewN ?_ _ | refine blk_drew ?_ | refine blk_alloc ?_ _)); exact BK180.out) hb); have n2_ := Aside0.mk (blk_below (g := gb186) (o := .cells #[.float .f64 b_fr185_0, .float .f64 b_fr185_1] 34 (0, 0)) (by (with_reducible repeat (first | refine blk_drewN ?_ _ | refine blk_drew ?_ | refine blk_alloc ?_ _)); refine blk_far ?_ NB186_211.out _; (with_reducible repeat (first | refine blk_drewN ?_ _ | refine blk_drew ?_ | refine blk_alloc ?_ _)); refine blk_far ?_ NB186_211.out _; (with_reducible repeat (first | refine blk_drewN ?_ _ | refine blk_drew ?_ | refine blk_alloc ?_ _)); refine blk_far ?_ NB186_210.out _; (with_reducible repeat (first | refine blk_drewN ?_ _ | refine blk_drew ?_ | refine blk_alloc ?_ _)); refine blk_far ?_ NB186_210.out _; (with_reducible repeat (first | refine blk_drewN ?_ _ | refine blk_drew ?_ | refine blk_alloc ?_ _)); exact BK186.out) hb); have n3_ := Aside0.mk (blk_below (g := gb210) (o := .cells #[.float .f64 b_t206, .float .f64 b_t207] 34 (0, 0)) (by (with_reducible repeat (first | refine blk_drewN ?_ _ | refine blk_drew ?_ | refine blk_alloc ?_ _)); refine blk_far ?_ NB210_211.out _; (with_reducible repeat (first | refine blk_drewN ?_ _ | refine blk_drew ?_ | refine blk_alloc ?_ _)); refine blk_far ?_ NB210_211.out _; (with_reducible repeat (first | refine blk_drewN ?_ _ | refine blk_drew ?_ | refine blk_alloc ?_ _)); refine blk_put (cs := #[.float .f64 b_t206, .float .f64 0]) ?_ 1 _ rfl; (with_reducible repeat (first | refine blk_drewN ?_ _ | refine blk_drew ?_ | refine blk_alloc ?_ _)); refine blk_put (cs := #[.float .f64 0, .float .f64 0]) ?_ 0 _ rfl; (with_reducible repeat (first | refine blk_drewN ?_ _ | refine blk_drew ?_ | refine blk_alloc ?_ _)); exact BK210.out) hb); have n4_ := Aside0.mk (blk_below (g := gb211) (o := .cells #[.float .f64 b_t208, .float .f64 b_t209] 34 (0, 0)) (by (with_reducible repeat (first | refine blk_drewN ?_ _ | refine blk_drew ?_ | refine blk_alloc ?_ _)); refine blk_put (cs := #[.float .f64 b_t208, .float .f64 0]) ?_ 1 _ rfl; (with_reducible repeat (first | refine blk_drewN ?_ _ | refine blk_drew ?_ | refine blk_alloc ?_ _)); refine blk_put (cs := #[.float .f64 0, .float .f64 0]) ?_ 0 _ rfl; (with_reducible repeat (first | refine blk_drewN ?_ _ | refine blk_drew ?_ | refine blk_alloc ?_ _)); refine blk_far ?_ NB211_210.out _; (with_reducible repeat (first | refine blk_drewN ?_ _ | refine blk_drew ?_ | refine blk_alloc ?_ _)); refine blk_far ?_ NB211_210.out _; (with_reducible repeat (first | refine blk_drewN ?_ _ | refine blk_drew ?_ | refine blk_alloc ?_ _)); exact BK211.out) hb); have n5_ := Aside0.mk (below_step (by repeat (first | (with_reducible first | exact HB.out | apply below_alloc | apply pw_below_drewN | apply below_drew1 | refine below_set ?_ GE210.out | refine below_set ?_ GE211.out) | exact HB.out)) hb); clear HO_10; clear BK180; clear BK186; clear BK210; clear BK211; clear HB; have HO_10 := n0_; have BK180 := n1_; have BK186 := n2_; have BK210 := n3_; have BK211 := n4_; have HB := n5_; clear n0_ n1_ n2_ n3_ n4_ n5_; (try clear hb); (try clear hb2); (try clear hk); (try clear hi)) | ((with_reducible refine gate_dst (N := 15) rfl ?_); (try (refine gate_guard (by rfl) ?_; dsimp only)); refine box_event ?hg (N := 15) ?hd (cs := #[.float .f64 0, .float .f64 0]) (t := 34) ?hr ?_; (case hd => rfl); (case hg => rfl); (case hr => first | (go_simp; done) | (go_simp; rfl)); intro gb214 hg w209 hbox hb; have n0_ := Aside0.mk (Kd.R_below (by exact HO_10.out) hb); have n1_ := Aside0.mk (blk_below (g := gb180) (o := .cells #[.float .f64 b_ft177, .float .f64 b_ft179] 34 (0, 0)) (by exact BK180.out) hb); have n2_ := Aside0.mk (blk_below (g := gb186) (o := .cells #[.float .f64 b_fr185_0, .float .f64 b_fr185_1] 34 (0, 0)) (by exact BK186.out) hb); have n3_ := Aside0.mk (blk_below (g := gb210) (o := .cells #[.float .f64 b_t206, .float .f64 b_t207] 34 (0, 0)) (by exact BK210.out) hb); have n4_ := Aside0.mk (blk_below (g := gb211) (o := .cells #[.float .f64 b_t208, .float .f64 b_t209] 34 (0, 0)) (by exact BK211.out) hb); have n5_ := Aside0.mk (below_step (by exact HB.out) hb); have n6_ := Aside0.mk (hbox); have n7_ := Aside0.mk ((by rw [hg]; exact (below_size (by exact HB.out)) : w.heap.size ≤ gb214)); have n8_ := Aside0.mk ((n7_.out)); have n9_ := Aside0.mk ((by rw [hg]; exact Nat.ne_of_lt (blk_lt (g := gb180) (o := .cells #[.float .f64 b_ft177, .float .f64 b_ft179] 34 (0, 0)) (by exact BK180.out)) : gb180 ≠ gb214)); have n10_ := Aside0.mk ((n9_.out.symm)); have n11_ := Aside0.mk ((by rw [hg]; exact Nat.ne_of_lt (blk_lt (g := gb186) (o := .cells #[.float .f64 b_fr185_0, .float .f64 b_fr185_1] 34 (0, 0)) (by exact BK186.out)) : gb186 ≠ gb214)); have n12_ := Aside0.mk ((n11_.out.symm)); have n13_ := Aside0.mk ((by rw [hg]; exact Nat.ne_of_lt (blk_lt (g := gb210) (o := .cells #[.float .f64 b_t206, .float .f64 b_t207] 34 (0, 0)) (by exact BK210.out)) : gb210 ≠ gb214)); have n14_ := Aside0.mk ((n13_.out.symm)); have n15_ := Aside0.mk ((by rw [hg]; exact Nat.ne_of_lt (blk_lt (g := gb211) (o := .cells #[.float .f64 b_t208, .float .f64 b_t209] 34 (0, 0)) (by exact BK211.out)) : gb211 ≠ gb214)); have n16_ := Aside0.mk ((n15_.out.symm)); clear HO_10; clear BK180; clear BK186; clear BK210; clear BK211; clear HB; have HO_10 := n0_; have BK180 := n1_; have BK186 := n2_; have BK210 := n3_; have BK211 := n4_; have HB := n5_; have BK214 := n6_; have GW214 := n7_; have GE214 := n8_; have NB180_214 := n9_; have NB214_180 := n10_; have NB186_214 := n11_; have NB214_186 := n12_; have NB210_214 := n13_; have NB214_210 := n14_; have NB211_214 := n15_; have NB214_211 := n16_; clear n0_ n1_ n2_ n3_ n4_ n5_ n6_ n7_ n8_ n9_ n10_ n11_ n12_ n13_ n14_ n15_ n16_; clear hb hbox hg; have hnb210 := NB214_180.out; have hnc210 := NB180_214.out; have hnb211 := NB214_186.out; have hnc211 := NB186_214.out; have hnb212 := NB214_210.out; have hnc212 := NB210_214.out; have hnb213 := NB214_211.out; have hnc213 := NB211_214.out; have hcz214_0 : w209.cell? ⟨gb214, 0, none⟩ = some (.float .f64 0) := (blk_cell BK214.out 0).trans rfl; have hcz214_1 : w209.cell? ⟨gb214, 1, none⟩ = some (.float .f64 0) := (blk_cell BK214.out 1).trans rfl; have hfz214_0 := blk_frozen BK214.out 0; have hfz214_1 := blk_frozen BK214.out 1; have hcz215_0 : w209.cell? ⟨gb210, 0, none⟩ = some (.float .f64 b_t206) := (blk_cell BK210.out 0).trans rfl; have hcz215_1 : w209.cell? ⟨gb210, 1, none⟩ = some (.float .f64 b_t207) := (blk_cell BK210.out 1).trans rfl; have hfz215_0 := blk_frozen BK210.out 0; have hfz215_1 := blk_frozen BK210.out 1))
             go_ret
             exact ⟨by first | rfl | (simp [errW_none, errW_some] <;> rfl) | (simp only [← hji8]; first | rfl | (simp [errW_none, errW_some] <;> rfl)) | (simp [*, errW_none, errW_some] <;> rfl), by repeat (first | (with_reducible first | exact HB.out | apply below_alloc | apply pw_below_drewN | apply below_drew1 | refine below_set ?_ GE214.out) | exact HB.out)⟩
           ·rw [if_neg c87] at H
            have c87b0 : (fcmp .eql .f64 t206 (cn .f64 0)) = false := by simpa using c87
            clear c87
            obtain rfl := Option.some.inj H
            have hnb216 := NB180_186.out
            have hnc216 := NB186_180.out
            have hcz217_0 : wr.cell? ⟨gb180, 0, none⟩ = some (.float .f64 b_ft177) := (blk_cell BK180.out 0).trans rfl
            have hcz217_1 : wr.cell? ⟨gb180, 1, none⟩ = some (.float .f64 b_ft179) := (blk_cell BK180.out 1).trans rfl
            have hfz217_0 := blk_frozen BK180.out 0
            have hfz217_1 := blk_frozen BK180.out 1
            have hcz218_0 : wr.cell? ⟨gb186, 0, none⟩ = some (.float .f64 b_fr185_0) := (blk_cell BK186.out 0).trans rfl
            have hcz218_1 : wr.cell? ⟨gb186, 1, none⟩ = some (.float .f64 b_fr185_1) := (blk_cell BK186.out 1).trans rfl
            have hfz218_0 := blk_frozen BK186.out 0
            have hfz218_1 := blk_frozen BK186.out 1
            go_wp2_with (first | ((with_reducible refine gate_callee (f := 53) rfl ?_); refine goesL_ (some 116) rfl rfl Try.func53 (by kernel_rfl) rfl #[.agg #[.float .f64 b_ft177, .float .f64 b_ft179], .agg #[.float .f64 b_fr185_0, .float .f64 b_fr185_1], .agg #[.float .f64 b_ft177, .float .f64 b_ft179], .agg #[.float .f64 b_fr185_0, .float .f64 b_fr185_1]] rfl (by (try simp only [List.map_toArray, List.map_cons, List.map_nil]); first | done | rfl | (simp only [List.length_drop, List.length_take]; rfl)) ?_; (with_reducible refine (impl_Flutter.calls b_ft177 ft177 b_ft179 ft179 b_fr185_0 fr185_0 b_fr185_1 fr185_1 b_ft177 ft177 b_ft179 ft179 b_fr185_0 fr185_0 b_fr185_1 fr185_1 t206 t207 t208 t209 _ ?side1 ?side2 ?side3 ?side4 ?side5 ?side6 ?side7 ?side8 A85.out).mono ?_); (case side1 => exact hF_ft177); (case side2 => exact hF_ft179); (case side3 => exact hF_fr185_0); (case side4 => exact hF_fr185_1); (case side5 => exact hF_ft177); (case side6 => exact hF_ft179); (case side7 => exact hF_fr185_0); (case side8 => exact hF_fr185_1); rintro e w219 ⟨b_t206, b_t207, b_t208, b_t209, rfl, hF_t206, hF_t207, hF_t208, hF_t209, hb⟩; refine ⟨_, rfl, ?_⟩; have n0_ := Aside0.mk (Kd.R_below (by exact HO_10.out) hb); have n1_ := Aside0.mk (blk_below (g := gb180) (o := .cells #[.float .f64 b_ft177, .float .f64 b_ft179] 34 (0, 0)) (by exact BK180.out) hb); have n2_ := Aside0.mk (blk_below (g := gb186) (o := .cells #[.float .f64 b_fr185_0, .float .f64 b_fr185_1] 34 (0, 0)) (by exact BK186.out) hb); have n3_ := Aside0.mk (below_step (by exact HB.out) hb); clear HO_10; clear BK180; clear BK186; clear HB; have HO_10 := n0_; have BK180 := n1_; have BK186 := n2_; have HB := n3_; clear n0_ n1_ n2_ n3_; (try clear hb); (try clear hb2); (try clear hk); (try clear hi)) | ((with_reducible refine gate_dst (N := 13) rfl ?_); (try (refine gate_guard (by rfl) ?_; dsimp only)); refine box_event ?hg (N := 13) ?hd (cs := #[.float .f64 0, .float .f64 0]) (t := 34) ?hr ?_; (case hd => rfl); (case hg => rfl); (case hr => first | (go_simp; done) | (go_simp; rfl)); intro gb210 hg w220 hbox hb; have n0_ := Aside0.mk (Kd.R_below (by exact HO_10.out) hb); have n1_ := Aside0.mk (blk_below (g := gb180) (o := .cells #[.float .f64 b_ft177, .float .f64 b_ft179] 34 (0, 0)) (by exact BK180.out) hb); have n2_ := Aside0.mk (blk_below (g := gb186) (o := .cells #[.float .f64 b_fr185_0, .float .f64 b_fr185_1] 34 (0, 0)) (by exact BK186.out) hb); have n3_ := Aside0.mk (below_step (by exact HB.out) hb); have n4_ := Aside0.mk (hbox); have n5_ := Aside0.mk ((by rw [hg]; exact (below_size (by exact HB.out)) : w.heap.size ≤ gb210)); have n6_ := Aside0.mk ((n5_.out)); have n7_ := Aside0.mk ((by rw [hg]; exact Nat.ne_of_lt (blk_lt (g := gb180) (o := .cells #[.float .f64 b_ft177, .float .f64 b_ft179] 34 (0, 0)) (by exact BK180.out)) : gb180 ≠ gb210)); have n8_ := Aside0.mk ((n7_.out.symm)); have n9_ := Aside0.mk ((by rw [hg]; exact Nat.ne_of_lt (blk_lt (g := gb186) (o := .cells #[.float .f64 b_fr185_0, .float .f64 b_fr185_1] 34 (0, 0)) (by exact BK186.out)) : gb186 ≠ gb210)); have n10_ := Aside0.mk ((n9_.out.symm)); clear HO_10; clear BK180; clear BK186; clear HB; have HO_10 := n0_; have BK180 := n1_; have BK186 := n2_; have HB := n3_; have BK210 := n4_; have GW210 := n5_; have GE210 := n6_; have NB180_210 := n7_; have NB210_180 := n8_; have NB186_210 := n9_; have NB210_186 := n10_; clear n0_ n1_ n2_ n3_ n4_ n5_ n6_ n7_ n8_ n9_ n10_; clear hb hbox hg) | ((with_reducible refine gate_dst (N := 14) rfl ?_); (try (refine gate_guard (by rfl) ?_; dsimp only)); refine box_event ?hg (N := 14) ?hd (cs := #[.float .f64 0, .float .f64 0]) (t := 34) ?hr ?_; (case hd => rfl); (case hg => rfl); (case hr => first | (go_simp; done) | (go_simp; rfl)); intro gb211 hg w221 hbox hb; have n0_ := Aside0.mk (Kd.R_below (by exact HO_10.out) hb); have n1_ := Aside0.mk (blk_below (g := gb180) (o := .cells #[.float .f64 b_ft177, .float .f64 b_ft179] 34 (0, 0)) (by exact BK180.out) hb); have n2_ := Aside0.mk (blk_below (g := gb186) (o := .cells #[.float .f64 b_fr185_0, .float .f64 b_fr185_1] 34 (0, 0)) (by exact BK186.out) hb); have n3_ := Aside0.mk (blk_below (g := gb210) (o := .cells #[.float .f64 0, .float .f64 0] 34 (0, 0)) (by exact BK210.out) hb); have n4_ := Aside0.mk (below_step (by exact HB.out) hb); have n5_ := Aside0.mk (hbox); have n6_ := Aside0.mk ((by rw [hg]; exact (below_size (by exact HB.out)) : w.heap.size ≤ gb211)); have n7_ := Aside0.mk ((n6_.out)); have n8_ := Aside0.mk ((by rw [hg]; exact Nat.ne_of_lt (blk_lt (g := gb180) (o := .cells #[.float .f64 b_ft177, .float .f64 b_ft179] 34 (0, 0)) (by exact BK180.out)) : gb180 ≠ gb211)); have n9_ := Aside0.mk ((n8_.out.symm)); have n10_ := Aside0.mk ((by rw [hg]; exact Nat.ne_of_lt (blk_lt (g := gb186) (o := .cells #[.float .f64 b_fr185_0, .float .f64 b_fr185_1] 34 (0, 0)) (by exact BK186.out)) : gb186 ≠ gb211)); have n11_ := Aside0.mk ((n10_.out.symm)); have n12_ := Aside0.mk ((by rw [hg]; exact Nat.ne_of_lt (blk_lt (g := gb210) (o := .cells #[.float .f64 0, .float .f64 0] 34 (0, 0)) (by exact BK210.out)) : gb210 ≠ gb211)); have n13_ := Aside0.mk ((n12_.out.symm)); clear HO_10; clear BK180; clear BK186; clear BK210; clear HB; have HO_10 := n0_; have BK180 := n1_; have BK186 := n2_; have BK210 := n3_; have HB := n4_; have BK211 := n5_; have GW211 := n6_; have GE211 := n7_; have NB180_211 := n8_; have NB211_180 := n9_; have NB186_211 := n10_; have NB211_186 := n11_; have NB210_211 := n12_; have NB211_210 := n13_; clear n0_ n1_ n2_ n3_ n4_ n5_ n6_ n7_ n8_ n9_ n10_ n11_ n12_ n13_; clear hb hbox hg; have hnb222 := NB210_180.out; have hnc222 := NB180_210.out; have hnb223 := NB210_186.out; have hnc223 := NB186_210.out; have hnb224 := NB210_211.out; have hnc224 := NB211_210.out; have hcz225_0 : w221.cell? ⟨gb210, 0, none⟩ = some (.float .f64 0) := (blk_cell BK210.out 0).trans rfl; have hcz225_1 : w221.cell? ⟨gb210, 1, none⟩ = some (.float .f64 0) := (blk_cell BK210.out 1).trans rfl; have hfz225_0 := blk_frozen BK210.out 0; have hfz225_1 := blk_frozen BK210.out 1; have hnb226 := NB211_180.out; have hnc226 := NB180_211.out; have hnb227 := NB211_186.out; have hnc227 := NB186_211.out; have hcz228_0 : w221.cell? ⟨gb211, 0, none⟩ = some (.float .f64 0) := (blk_cell BK211.out 0).trans rfl; have hcz228_1 : w221.cell? ⟨gb211, 1, none⟩ = some (.float .f64 0) := (blk_cell BK211.out 1).trans rfl; have hfz228_0 := blk_frozen BK211.out 0; have hfz228_1 := blk_frozen BK211.out 1; have hcz229_0 : w221.cell? ⟨gb180, 0, none⟩ = some (.float .f64 b_ft177) := (blk_cell BK180.out 0).trans rfl; have hcz229_1 : w221.cell? ⟨gb180, 1, none⟩ = some (.float .f64 b_ft179) := (blk_cell BK180.out 1).trans rfl; have hfz229_0 := blk_frozen BK180.out 0; have hfz229_1 := blk_frozen BK180.out 1) | ((with_reducible refine gate_callee (f := 54) rfl ?_); refine goesL_ (some 121) rfl rfl Try.func54 (by kernel_rfl) rfl #[.agg #[.float .f64 b_ft177, .float .f64 b_ft179], .agg #[.float .f64 b_ft177, .float .f64 b_ft179]] rfl (by (try simp only [List.map_toArray, List.map_cons, List.map_nil]); first | done | rfl | (simp only [List.length_drop, List.length_take]; rfl)) ?_; (with_reducible refine (impl_CxLess.calls b_ft177 ft177 b_ft179 ft179 b_ft177 ft177 b_ft179 ft179 t212 t213 _ ?side1 ?side2 ?side3 ?side4 A86.out).mono ?_); (case side1 => exact hF_ft177); (case side2 => exact hF_ft179); (case side3 => exact hF_ft177); (case side4 => exact hF_ft179); rintro e w230 ⟨b_t212, b_t213, rfl, hF_t212, hF_t213, hb⟩; refine ⟨_, rfl, ?_⟩; have n0_ := Aside0.mk (Kd.R_below (by (with_reducible repeat (first | apply Kd.R_alloc | apply Kd.R_drewN | apply Kd.R_drew)); exact (Kd.R_mono (Kd.R_mono (Kd.R_far (p := ⟨gb211, 1, none⟩) (Kd.R_far (p := ⟨gb211, 0, none⟩) (Kd.R_far (p := ⟨gb210, 1, none⟩) (Kd.R_far (p := ⟨gb210, 0, none⟩) (Kd.R_types (Kd.R_types HO_10.out BK210.out (by decide)) BK211.out (by decide)) (fun _ hk => hk.1.2) (.float .f64 b_t206)) (fun _ hk => hk.1.2) (.float .f64 b_t207)) (fun _ hk => hk.2) (.float .f64 b_t208)) (fun _ hk => hk.2) (.float .f64 b_t209)) (fun _ h_ => h_.1)) (fun _ h_ => h_.1))) hb); have n1_ := Aside0.mk (blk_below (g := gb180) (o := .cells #[.float .f64 b_ft177, .float .f64 b_ft179] 34 (0, 0)) (by (with_reducible repeat (first | refine blk_drewN ?_ _ | refine blk_drew ?_ | refine blk_alloc ?_ _)); refine blk_far ?_ NB180_211.out _; (with_reducible repeat (first | refine blk_drewN ?_ _ | refine blk_drew ?_ | refine blk_alloc ?_ _)); refine blk_far ?_ NB180_211.out _; (with_reducible repeat (first | refine blk_drewN ?_ _ | refine blk_drew ?_ | refine blk_alloc ?_ _)); refine blk_far ?_ NB180_210.out _; (with_reducible repeat (first | refine blk_drewN ?_ _ | refine blk_drew ?_ | refine blk_alloc ?_ _)); refine blk_far ?_ NB180_210.out _; (with_reducible repeat (first | refine blk_drewN ?_ _ | refine blk_drew ?_ | refine blk_alloc ?_ _)); exact BK180.out) hb); have n2_ := Aside0.mk (blk_below (g := gb186) (o := .cells #[.float .f64 b_fr185_0, .float .f64 b_fr185_1] 34 (0, 0)) (by (with_reducible repeat (first | refine blk_drewN ?_ _ | refine blk_drew ?_ | refine blk_alloc ?_ _)); refine blk_far ?_ NB186_211.out _; (with_reducible repeat (first | refine blk_drewN ?_ _ | refine blk_drew ?_ | refine blk_alloc ?_ _)); refine blk_far ?_ NB186_211.out _; (with_reducible repeat (first | refine blk_drewN ?_ _ | refine blk_drew ?_ | refine blk_alloc ?_ _)); refine blk_far ?_ NB186_210.out _; (with_reducible repeat (first | refine blk_drewN ?_ _ | refine blk_drew ?_ | refine blk_alloc ?_ _)); refine blk_far ?_ NB186_210.out _; (with_reducible repeat (first | refine blk_drewN ?_ _ | refine blk_drew ?_ | refine blk_alloc ?_ _)); exact BK186.out) hb); have n3_ := Aside0.mk (blk_below (g := gb210) (o := .cells #[.float .f64 b_t206, .float .f64 b_t207] 34 (0, 0)) (by (with_reducible repeat (first | refine blk_drewN ?_ _ | refine blk_drew ?_ | refine blk_alloc ?_ _)); refine blk_far ?_ NB210_211.out _; (with_reducible repeat (first | refine blk_drewN ?_ _ | refine blk_drew ?_ | refine blk_alloc ?_ _)); refine blk_far ?_ NB210_211.out _; (with_reducible repeat (first | refine blk_drewN ?_ _ | refine blk_drew ?_ | refine blk_alloc ?_ _)); refine blk_put (cs := #[.float .f64 b_t206, .float .f64 0]) ?_ 1 _ rfl; (with_reducible repeat (first | refine blk_drewN ?_ _ | refine blk_drew ?_ | refine blk_alloc ?_ _)); refine blk_put (cs := #[.float .f64 0, .float .f64 0]) ?_ 0 _ rfl; (with_reducible repeat (first | refine blk_drewN ?_ _ | refine blk_drew ?_ | refine blk_alloc ?_ _)); exact BK210.out) hb); have n4_ := Aside0.mk (blk_below (g := gb211) (o := .cells #[.float .f64 b_t208, .float .f64 b_t209] 34 (0, 0)) (by (with_reducible repeat (first | refine blk_drewN ?_ _ | refine blk_drew ?_ | refine blk_alloc ?_ _)); refine blk_put (cs := #[.float .f64 b_t208, .float .f64 0]) ?_ 1 _ rfl; (with_reducible repeat (first | refine blk_drewN ?_ _ | refine blk_drew ?_ | refine blk_alloc ?_ _)); refine blk_put (cs := #[.float .f64 0, .float .f64 0]) ?_ 0 _ rfl; (with_reducible repeat (first | refine blk_drewN ?_ _ | refine blk_drew ?_ | refine blk_alloc ?_ _)); refine blk_far ?_ NB211_210.out _; (with_reducible repeat (first | refine blk_drewN ?_ _ | refine blk_drew ?_ | refine blk_alloc ?_ _)); refine blk_far ?_ NB211_210.out _; (with_reducible repeat (first | refine blk_drewN ?_ _ | refine blk_drew ?_ | refine blk_alloc ?_ _)); exact BK211.out) hb); have n5_ := Aside0.mk (below_step (by repeat (first | (with_reducible first | exact HB.out | apply below_alloc | apply pw_below_drewN | apply below_drew1 | refine below_set ?_ GE210.out | refine below_set ?_ GE211.out) | exact HB.out)) hb); clear HO_10; clear BK180; clear BK186; clear BK210; clear BK211; clear HB; have HO_10 := n0_; have BK180 := n1_; have BK186 := n2_; have BK210 := n3_; have BK211 := n4_; have HB := n5_; clear n0_ n1_ n2_ n3_ n4_ n5_; (try clear hb); (try clear hb2); (try clear hk); (try clear hi)) | ((with_reducible refine gate_dst (N := 15) rfl ?_); (try (refine gate_guard (by rfl) ?_; dsimp only)); refine box_event ?hg (N := 15) ?hd (cs := #[.float .f64 0, .float .f64 0]) (t := 34) ?hr ?_; (case hd => rfl); (case hg => rfl); (case hr => first | (go_simp; done) | (go_simp; rfl)); intro gb214 hg w231 hbox hb; have n0_ := Aside0.mk (Kd.R_below (by exact HO_10.out) hb); have n1_ := Aside0.mk (blk_below (g := gb180) (o := .cells #[.float .f64 b_ft177, .float .f64 b_ft179] 34 (0, 0)) (by exact BK180.out) hb); have n2_ := Aside0.mk (blk_below (g := gb186) (o := .cells #[.float .f64 b_fr185_0, .float .f64 b_fr185_1] 34 (0, 0)) (by exact BK186.out) hb); have n3_ := Aside0.mk (blk_below (g := gb210) (o := .cells #[.float .f64 b_t206, .float .f64 b_t207] 34 (0, 0)) (by exact BK210.out) hb); have n4_ := Aside0.mk (blk_below (g := gb211) (o := .cells #[.float .f64 b_t208, .float .f64 b_t209] 34 (0, 0)) (by exact BK211.out) hb); have n5_ := Aside0.mk (below_step (by exact HB.out) hb); have n6_ := Aside0.mk (hbox); have n7_ := Aside0.mk ((by rw [hg]; exact (below_size (by exact HB.out)) : w.heap.size ≤ gb214)); have n8_ := Aside0.mk ((n7_.out)); have n9_ := Aside0.mk ((by rw [hg]; exact Nat.ne_of_lt (blk_lt (g := gb180) (o := .cells #[.float .f64 b_ft177, .float .f64 b_ft179] 34 (0, 0)) (by exact BK180.out)) : gb180 ≠ gb214)); have n10_ := Aside0.mk ((n9_.out.symm)); have n11_ := Aside0.mk ((by rw [hg]; exact Nat.ne_of_lt (blk_lt (g := gb186) (o := .cells #[.float .f64 b_fr185_0, .float .f64 b_fr185_1] 34 (0, 0)) (by exact BK186.out)) : gb186 ≠ gb214)); have n12_ := Aside0.mk ((n11_.out.symm)); have n13_ := Aside0.mk ((by rw [hg]; exact Nat.ne_of_lt (blk_lt (g := gb210) (o := .cells #[.float .f64 b_t206, .float .f64 b_t207] 34 (0, 0)) (by exact BK210.out)) : gb210 ≠ gb214)); have n14_ := Aside0.mk ((n13_.out.symm)); have n15_ := Aside0.mk ((by rw [hg]; exact Nat.ne_of_lt (blk_lt (g := gb211) (o := .cells #[.float .f64 b_t208, .float .f64 b_t209] 34 (0, 0)) (by exact BK211.out)) : gb211 ≠ gb214)); have n16_ := Aside0.mk ((n15_.out.symm)); clear HO_10; clear BK180; clear BK186; clear BK210; clear BK211; clear HB; have HO_10 := n0_; have BK180 := n1_; have BK186 := n2_; have BK210 := n3_; have BK211 := n4_; have HB := n5_; have BK214 := n6_; have GW214 := n7_; have GE214 := n8_; have NB180_214 := n9_; have NB214_180 := n10_; have NB186_214 := n11_; have NB214_186 := n12_; have NB210_214 := n13_; have NB214_210 := n14_; have NB211_214 := n15_; have NB214_211 := n16_; clear n0_ n1_ n2_ n3_ n4_ n5_ n6_ n7_ n8_ n9_ n10_ n11_ n12_ n13_ n14_ n15_ n16_; clear hb hbox hg; have hnb232 := NB214_180.out; have hnc232 := NB180_214.out; have hnb233 := NB214_186.out; have hnc233 := NB186_214.out; have hnb234 := NB214_210.out; have hnc234 := NB210_214.out; have hnb235 := NB214_211.out; have hnc235 := NB211_214.out; have hcz236_0 : w231.cell? ⟨gb214, 0, none⟩ = some (.float .f64 0) := (blk_cell BK214.out 0).trans rfl; have hcz236_1 : w231.cell? ⟨gb214, 1, none⟩ = some (.float .f64 0) := (blk_cell BK214.out 1).trans rfl; have hfz236_0 := blk_frozen BK214.out 0; have hfz236_1 := blk_frozen BK214.out 1; have hcz237_0 : w231.cell? ⟨gb210, 0, none⟩ = some (.float .f64 b_t206) := (blk_cell BK210.out 0).trans rfl; have hcz237_1 : w231.cell? ⟨gb210, 1, none⟩ = some (.float .f64 b_t207) := (blk_cell BK210.out 1).trans rfl; have hfz237_0 := blk_frozen BK210.out 0; have hfz237_1 := blk_frozen BK210.out 1))
            go_ret
            exact ⟨by first | rfl | (simp [errW_none, errW_some] <;> rfl) | (simp only [← hji8]; first | rfl | (simp [errW_none, errW_some] <;> rfl)) | (simp [*, errW_none, errW_some] <;> rfl), by repeat (first | (with_reducible first | exact HB.out | apply below_alloc | apply pw_below_drewN | apply below_drew1 | refine below_set ?_ GE214.out) | exact HB.out)⟩
    ·rw [if_neg c10] at H
     exact absurd H (by simp)
   ·rw [if_neg c9] at H
    exact absurd H (by simp)

/-- THE ONE PURE STATEMENT of laws_FnQuotient: yours. -/
def laws_FnQuotient.Pure : Prop := ∀ (l0 : List Int), l0.length ≤ maxLen → l0.length * 1 ≤ 140737488351232 → (∀ x ∈ l0, (Lit.int .u8 x).wf = true) → ∃ k, laws_FnQuotient.f k l0 = some true
theorem laws_FnQuotient.walk (P : laws_FnQuotient.Pure) (a0 : Option Addr) (len0 cap0 : Nat) (z0 : List Int) (w : World) (w0 : (a0 = none ∧ len0 = 0 ∧ cap0 = 0 ∧ z0 = []) ∨ ∃ x, a0 = some x ∧ len0 ≤ cap0 ∧ cap0 ≤ maxLen ∧ z0.length = cap0 ∧ (∀ i, i < z0.length → w.cell? (x.add i) = some (.int .u8 (z0.getD i 0))) ∧ ∀ n ∈ z0, (Lit.int .u8 n).wf = true) (y0 : len0 * 1 ≤ 140737488351232) :
  Calls Try.prog 10 #[.slice a0 len0 cap0] w fun e w' => e = .returned (.bool true) ∧ Below w.heap.size w w' := by
 obtain ⟨l0, rfl, hr0, hm0, hw0, hc0⟩ := ReadsInt.ofRowC w0
 obtain ⟨k, h⟩ := P l0 hm0 y0 hw0
 refine (laws_FnQuotient.calls k _ _ l0 true w (Kd.C_of_reads (d := (0 : Int)) (h1 := fun _ => rfl) hr0) hc0 h).mono ?_
 rintro e w' ⟨rfl, hd⟩
 exact ⟨rfl, hd⟩

end Go.Proofs.Ytfopdbdamkfglaa.QFnQuotient
