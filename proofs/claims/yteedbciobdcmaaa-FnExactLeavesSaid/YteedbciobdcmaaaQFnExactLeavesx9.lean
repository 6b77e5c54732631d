/- Lean functions that tell what the Go functions used by one law answer, and for each a proof that the Go code comes to just these answers; no condition. Printed by this session's own program over the kit's printer. -/
import Derived.Test.YteedbciobdcmaaaWSq
import Derived.Test.YteedbciobdcmaaaQFnExactLeavesx0
import Derived.Test.YteedbciobdcmaaaQFnExactLeavesx8
namespace Go.Proofs.Yteedbciobdcmaaa.QFnExactLeaves
open Go.RowKit Go.Proofs.YteedbciobdcmaaaW.PrintWords Go.Proofs.YteedbciobdcmaaaW.PrintLast Go.Proofs.YteedbciobdcmaaaW.PrintMore
attribute [local go_sem] max2_int min2_int max_two min_two max_three min_three max_four min_four   -- for this text's walks alone
attribute [local go_sem high] go_eql go_neq go_lss go_leq go_gtr go_geq go_store   -- for this text's walks alone
set_option linter.unusedVariables false
set_option linter.unusedSimpArgs false

/-! ### impl_Burnt: function 26 -/
mutual
def impl_Burnt.j0 : Nat → List (S60) → List (S62) → Bool → Option ((List (S60)) × Int)
 | 0, _, _, _ => none
 | k + 1, x0, x1, x16 => if x16 = true then (some (([] : List (S60)), (-2))) else ((impl_FuelTank_41.f x0).bind fun t238 => (impl_Burnt.l0 k t238 x1 (x1.length : Int) 0))
def impl_Burnt.l0 : Nat → List (S60) → List (S62) → Int → Int → Option ((List (S60)) × Int)
 | 0, _, _, _, _ => none
 | k + 1, x6, x19, x20, x21 => if x21 < x20 then (if 0 ≤ x21 then (if x21 < (x19.length : Int) then ((impl_in.f ((rd_T62 x19 x21).f0) 0 (wrap64 ((x6.length : Int) - 1))).bind fun t243 => (if t243 = true then ((impl_in.f ((rd_T62 x19 x21).f1) 1 10000).bind fun t244 => (if t244 = true then (if 0 ≤ ((rd_T62 x19 x21).f0) then (if ((rd_T62 x19 x21).f0) < (x6.length : Int) then (if ((rd_T60 x6 ((rd_T62 x19 x21).f0)).f0) < ((rd_T62 x19 x21).f1) then (some (x6, x21)) else (impl_Burnt.l0 k (x6.set (((rd_T62 x19 x21).f0) : Int).toNat (⟨wrap64 (((rd_T60 x6 ((rd_T62 x19 x21).f0)).f0) - ((rd_T62 x19 x21).f1)), (rd_T60 x6 ((rd_T62 x19 x21).f0)).f1⟩ : S60)) x19 x20 (wrap64 (x21 + 1)))) else (none)) else (none)) else (some (x6, x21)))) else (some (x6, x21)))) else (none)) else (none)) else (some (x6, (-1)))
end
def impl_Burnt.f (k : Nat) (l0 : List (S60)) (l1 : List (S62)) : Option ((List (S60)) × Int) := (impl_tanksOk.f k l0).bind fun t237 => (if t237 = true then (impl_Burnt.j0 k l0 l1 (decide ((l1.length : Int) > 60))) else (impl_Burnt.j0 k l0 l1 true))
theorem impl_Burnt.mono_l : ∀ k, (∀ y0 y1 y2, LeO (impl_Burnt.j0 k y0 y1 y2) (impl_Burnt.j0 (k + 1) y0 y1 y2)) ∧ (∀ y0 y1 y2 y3, LeO (impl_Burnt.l0 k y0 y1 y2 y3) (impl_Burnt.l0 (k + 1) y0 y1 y2 y3))
 | 0 => ⟨fun _ _ _ r h => by simp [impl_Burnt.j0] at h, fun _ _ _ _ r h => by simp [impl_Burnt.l0] at h⟩
 | k + 1 => by
  obtain ⟨ih0, ih1⟩ := impl_Burnt.mono_l k
  refine ⟨?_, ?_⟩
  ·intro y0 y1 y2
   unfold impl_Burnt.j0
   repeat' first
   | (with_reducible exact ih0 _ _ _)
   | (with_reducible exact ih1 _ _ _ _)
   | (with_reducible exact impl_tanksOk.mono _ _)
   | (with_reducible exact LeO.refl _)
   | (with_reducible exact LeO.none _)
   | (with_reducible refine LeO.ite ?_ ?_)
   | (with_reducible refine LeO.bind ?_ (fun _ => ?_))
   | exact ih0 _ _ _
   | exact ih1 _ _ _ _
   | exact impl_tanksOk.mono _ _
   | exact LeO.none _
   | refine LeO.ite ?_ ?_
   | refine LeO.bind ?_ (fun _ => ?_)
  ·intro y0 y1 y2 y3
   unfold impl_Burnt.l0
   repeat' first
   | (with_reducible exact ih0 _ _ _)
   | (with_reducible exact ih1 _ _ _ _)
   | (with_reducible exact impl_tanksOk.mono _ _)
   | (with_reducible exact LeO.refl _)
   | (with_reducible exact LeO.none _)
   | (with_reducible refine LeO.ite ?_ ?_)
   | (with_reducible refine LeO.bind ?_ (fun _ => ?_))
   | exact ih0 _ _ _
   | exact ih1 _ _ _ _
   | exact impl_tanksOk.mono _ _
   | exact LeO.none _
   | refine LeO.ite ?_ ?_
   | refine LeO.bind ?_ (fun _ => ?_)
theorem impl_Burnt.mono : ∀ a0 a1 k, LeO (impl_Burnt.f k a0 a1) (impl_Burnt.f (k + 1) a0 a1) := by
 intro a0 a1 k
 obtain ⟨ih0, ih1⟩ := impl_Burnt.mono_l k
 unfold impl_Burnt.f
 repeat' first
   | (with_reducible exact ih0 _ _ _)
   | (with_reducible exact ih1 _ _ _ _)
   | (with_reducible exact impl_tanksOk.mono _ _)
   | (with_reducible exact LeO.refl _)
   | (with_reducible exact LeO.none _)
   | (with_reducible refine LeO.ite ?_ ?_)
   | (with_reducible refine LeO.bind ?_ (fun _ => ?_))
   | exact ih0 _ _ _
   | exact ih1 _ _ _ _
   | exact impl_tanksOk.mono _ _
   | exact LeO.none _
   | refine LeO.ite ?_ ?_
   | refine LeO.bind ?_ (fun _ => ?_)
def impl_Burnt.T7 : Bool × List (List Nat × List Nat) := (true, [([], []), ([0], [0]), ([], []), ([2], [2]), ([3], [3]), ([1, 4], [1, 4]), ([5], [5]), ([6, 5], [6]), ([7], [7]), ([8, 7], [7, 8]), ([9, 7, 7], [7, 9]), ([10, 7], [7, 10]), ([7, 11], [7, 11]), ([12, 10], [12]), ([13], [13]), ([13], [13]), ([15, 13], [13, 15]), ([14, 16, 13], [13, 14, 16]), ([17, 13], [13, 17]), ([18, 13], [13, 18]), ([13], [13]), ([20, 13], [13, 20]), ([19, 21, 13], [13, 19, 21]), ([13, 22], [13, 22])])
def impl_Burnt.B7 : List Nat := [0, 1, 0, 4, 12, 31, 63, 127, 255, 511, 1023, 2047, 4095, 8191, 16383, 16383, 49151, 131071, 262143, 524287, 16383, 1064959, 4194303, 8388607]
theorem impl_Burnt.tab7 : rtab .any (opsOf Try.f26 7) = impl_Burnt.T7 := by kernel_rfl
theorem impl_Burnt.bits7 : waitsOk impl_Burnt.T7.2 impl_Burnt.B7 = true := by kernel_rfl
def impl_Burnt.T9 : Bool × List (List Nat × List Nat) := (true, [([], []), ([], []), ([1], [1]), ([0, 2], [0, 2]), ([3], [3]), ([4], [4]), ([], []), ([6], [6]), ([5, 7], [5, 7]), ([0, 2, 0, 1, 2, 3, 4, 5, 6, 7, 8], [0, 2]), ([9, 0, 1, 2, 3, 4, 5, 6, 7, 8], [9]), ([10, 8, 0, 1, 2, 3, 4, 5, 6, 7, 8], [8, 10])])
def impl_Burnt.B9 : List Nat := [0, 0, 2, 7, 15, 31, 0, 64, 255, 511, 1023, 2047]
theorem impl_Burnt.tab9 : rtab .any (opsOf Try.f26 9) = impl_Burnt.T9 := by kernel_rfl
theorem impl_Burnt.bits9 : waitsOk impl_Burnt.T9.2 impl_Burnt.B9 = true := by kernel_rfl
set_option maxHeartbeats 8000000 in
set_option maxRecDepth 100000 in
theorem impl_Burnt.calls (k : Nat) (A0 : Option Addr) (c0 : Nat) (l0 : List (S60)) (A1 : Option Addr) (c1 : Nat) (l1 : List (S62)) (r1 : List (S60)) (r2 : Int) (w : World) (hr0 : Kd.C k60 w A0 l0.length l0) (hc0 : l0.length ≤ c0) (hr1 : Kd.C k62 w A1 l1.length l1) (hc1 : l1.length ≤ c1) (h : impl_Burnt.f k l0 l1 = some (r1, r2)) :
  Calls Try.prog 26 #[.slice A0 l0.length c0, .slice A1 l1.length c1] w fun e w' => ∃ v0_ : Value, e = .returned (.tuple #[v0_, .int .i64 r2]) ∧ Kd.R k60 60 w' w.heap.size (fun _ => True) v0_ r1 ∧ Below w.heap.size w w' := by
 have hu62 := Try.underlying62
 have HR0 := mk_ hr0; have HC0 := mk_ hc0; clear hr0 hc0; have HR1 := mk_ hr1; have HC1 := mk_ hc1; clear hr1 hc1; have HB := mk_ (Below.refl w.heap.size w)
 have H : ((impl_tanksOk.f k l0).bind fun t237 => (if t237 = true then (impl_Burnt.j0 k l0 l1 (decide ((l1.length : Int) > 60))) else (impl_Burnt.j0 k l0 l1 true))) = some (r1, r2) := h
 clear h; have HC3 := mk_ H; clear H
 go_enter Try.func26, Try.ntmps26
 go_upto_region 1 with (fail)
 go_cut [16] (fun v16 wc => ∃ (kq : Nat) (x16_2 : Bool), v16 = .bool x16_2 ∧ Aside0 (impl_Burnt.j0 kq l0 l1 x16_2 = some (r1, r2)) ∧ Aside0 (kq ≤ k) ∧ Aside0 (Below w.heap.size w wc))
 case first =>
  have H := HC3.out; clear HC3; replace H := Option.bind_eq_some_iff.mp H; obtain ⟨t237, A40, H⟩ := H
  replace H : (if t237 = true then (impl_Burnt.j0 k l0 l1 (decide ((l1.length : Int) > 60))) else (impl_Burnt.j0 k l0 l1 true)) = some (r1, r2) := H
  have A4 := mk_ A40; clear A40; by_cases c5 : t237 = true
  ·subst c5
   have H1 : (impl_Burnt.j0 k l0 l1 (decide ((l1.length : Int) > 60))) = some (r1, r2) := by rw [if_pos rfl] at H; exact H
   clear H
   have H := H1
   clear H1
   have H' := mk_ H
   clear H
   go_wp2_with (first | ((with_reducible refine gc_ 50 rfl ?_); refine gl_ (some 10) rfl Try.func50 #[.slice A0 l0.length c0] ?_; (with_reducible refine (impl_tanksOk.calls k _ _ l0 true _ ?side1 ?side2 A4.out).mono ?_); (case side1 => exact cw_ (Kd.C_below HR0.out HB.out)); (case side2 => exact HC0.out); rintro e w6 ⟨rfl, hb⟩; refine ⟨_, rfl, ?_⟩; replace HB := bp_ HB hb; (try clear hb); (try clear hb2); (try clear hk); (try clear hi)))
   go_meet
   case rel => exact ⟨_, (decide ((l1.length : Int) > 60)), rf_, H', ⟨by first | omega | exact Nat.le_refl _⟩, ⟨hw_ HB⟩⟩
  ·replace c5 := Bool.eq_false_iff.mpr c5; subst c5
   have H1 : (impl_Burnt.j0 k l0 l1 true) = some (r1, r2) := by rw [if_neg (show ¬ (false = true) by decide)] at H; exact H
   clear H
   have H := H1
   clear H1
   have H' := mk_ H
   clear H
   go_wp2_with (first | ((with_reducible refine gc_ 50 rfl ?_); refine gl_ (some 10) rfl Try.func50 #[.slice A0 l0.length c0] ?_; (with_reducible refine (impl_tanksOk.calls k _ _ l0 false _ ?side1 ?side2 A4.out).mono ?_); (case side1 => exact cw_ (Kd.C_below HR0.out HB.out)); (case side2 => exact HC0.out); rintro e w7 ⟨rfl, hb⟩; refine ⟨_, rfl, ?_⟩; replace HB := bp_ HB hb; (try clear hb); (try clear hb2); (try clear hk); (try clear hi)))
   go_meet
   case rel => exact ⟨_, (true), rf_, H', ⟨by first | omega | exact Nat.le_refl _⟩, ⟨hw_ HB⟩⟩
 case rest =>
  clear HC3; (try clear c1)
  obtain ⟨kq, x16_2, rfl, HA, HJ2, HB⟩ := hcut
  cases kq with
  | zero => exact absurd HA.out (by simp [impl_Burnt.j0])
  | succ kj2 =>
   have H := HA.out; clear HA
   simp only [impl_Burnt.j0] at H
   by_cases c8 : x16_2 = true
   ·subst c8
    have H1 : (some (([] : List (S60)), (-2))) = some (r1, r2) := by rw [if_pos rfl] at H; exact H
    clear H
    have H := H1
    clear H1
    simp only [Option.some.injEq, Prod.mk.injEq] at H
    obtain ⟨rfl, rfl⟩ := H; go_wp2
    go_ret2
    exact ⟨_, re_, by first | exact Kd.R_nil _ _ _ _ _ | exact Kd.N_nil _ _ _ _ _ | exact Kd.V_nil _ _ _ _ _ | exact Kd.Q_nil _ _ _ _ _ | exact Kd.S_nil _ _ _ _ _, hw_ HB⟩
   ·replace c8 := Bool.eq_false_iff.mpr c8; subst c8
    have H1 : ((impl_FuelTank_41.f l0).bind fun t238 => (impl_Burnt.l0 kj2 t238 l1 (l1.length : Int) 0)) = some (r1, r2) := by rw [if_neg (show ¬ (false = true) by decide)] at H; exact H
    clear H
    have H := H1
    clear H1; replace H := Option.bind_eq_some_iff.mp H; obtain ⟨t238, A90, H⟩ := H
    replace H : (impl_Burnt.l0 kj2 t238 l1 (l1.length : Int) 0) = some (r1, r2) := H
    have A9 := mk_ A90; clear A90
    have H' := mk_ H
    clear H
    go_wp2_with (first | ((with_reducible refine gc_ 41 rfl ?_); refine gl_ (some 18) rfl Try.func41 #[.slice A0 l0.length c0] ?_; (with_reducible refine (impl_FuelTank_41.calls _ _ l0 t238 _ ?side1 ?side2 A9.out).mono ?_); (case side1 => exact cw_ (Kd.C_below HR0.out HB.out)); (case side2 => exact HC0.out); rintro e w10 ⟨v239, rfl, ho0, hb⟩; refine ⟨_, rfl, ?_⟩; have HO240 := mk_ (Kd.R_lower ho0 (below_size (by exact HB.out))); replace HB := bp_ HB hb; (try clear hb); (try clear hb2); (try clear hk); (try clear hi); (try clear ho0)))
    go_loopg [21] kj2 (fun kq v21 w' => ∃ (x6_2 : List (S60)) (x21_2 : Int), v21 = .int .i64 x21_2 ∧ Aside0 (impl_Burnt.l0 kq x6_2 l1 (l1.length : Int) x21_2 = some (r1, r2)) ∧ Aside0 (kq ≤ kj2) ∧ Aside0 (Kd.R k60 60 w' w.heap.size (fun _ => True) v239 x6_2) ∧ Aside0 (Below w.heap.size w w'))
    case atStart => exact ⟨(t238), (0), rf_, H', ⟨Nat.le_refl _⟩, kw_ HO240, ⟨hw_ HB⟩⟩
    case round =>
     clear H'; (try clear c1); (try clear c8)
     obtain ⟨x6_2, x21_2, rfl, HA, HK2, HO_6, HB⟩ := hrel
     cases gk with
     | zero => exact absurd HA.out (by simp [impl_Burnt.l0])
     | succ k2 =>
      have H := HA.out; clear HA
      simp only [impl_Burnt.l0] at H
      by_cases c11 : x21_2 < (l1.length : Int)
      ·rw [if_pos c11] at H; have c11b0 : decide (x21_2 < (l1.length : Int)) = true := decide_eq_true c11; clear c11; by_cases c12 : 0 ≤ x21_2
       ·rw [if_pos c12] at H; have c12b0 : decide (0 ≤ x21_2) = true := decide_eq_true c12; clear c12; by_cases c13 : x21_2 < (l1.length : Int)
        ·rw [if_pos c13] at H; have c13b0 : decide (x21_2 < (l1.length : Int)) = true := decide_eq_true c13; clear c13; replace H := Option.bind_eq_some_iff.mp H; obtain ⟨t243, A140, H⟩ := H
         replace H : (if t243 = true then ((impl_in.f ((rd_T62 l1 x21_2).f1) 1 10000).bind fun t244 => (if t244 = true then (if 0 ≤ ((rd_T62 l1 x21_2).f0) then (if ((rd_T62 l1 x21_2).f0) < (x6_2.length : Int) then (if ((rd_T60 x6_2 ((rd_T62 l1 x21_2).f0)).f0) < ((rd_T62 l1 x21_2).f1) then (some (x6_2, x21_2)) else (impl_Burnt.l0 k2 (x6_2.set (((rd_T62 l1 x21_2).f0) : Int).toNat (⟨wrap64 (((rd_T60 x6_2 ((rd_T62 l1 x21_2).f0)).f0) - ((rd_T62 l1 x21_2).f1)), (rd_T60 x6_2 ((rd_T62 l1 x21_2).f0)).f1⟩ : S60)) l1 (l1.length : Int) (wrap64 (x21_2 + 1)))) else (none)) else (none)) else (some (x6_2, x21_2)))) else (some (x6_2, x21_2))) = some (r1, r2) := H
         have A14 := mk_ A140; clear A140; by_cases c15 : t243 = true
         ·subst c15
          have H1 : ((impl_in.f ((rd_T62 l1 x21_2).f1) 1 10000).bind fun t244 => (if t244 = true then (if 0 ≤ ((rd_T62 l1 x21_2).f0) then (if ((rd_T62 l1 x21_2).f0) < (x6_2.length : Int) then (if ((rd_T60 x6_2 ((rd_T62 l1 x21_2).f0)).f0) < ((rd_T62 l1 x21_2).f1) then (some (x6_2, x21_2)) else (impl_Burnt.l0 k2 (x6_2.set (((rd_T62 l1 x21_2).f0) : Int).toNat (⟨wrap64 (((rd_T60 x6_2 ((rd_T62 l1 x21_2).f0)).f0) - ((rd_T62 l1 x21_2).f1)), (rd_T60 x6_2 ((rd_T62 l1 x21_2).f0)).f1⟩ : S60)) l1 (l1.length : Int) (wrap64 (x21_2 + 1)))) else (none)) else (none)) else (some (x6_2, x21_2)))) = some (r1, r2) := by rw [if_pos rfl] at H; exact H
          clear H
          have H := H1
          clear H1; replace H := Option.bind_eq_some_iff.mp H; obtain ⟨t244, A160, H⟩ := H
          replace H : (if t244 = true then (if 0 ≤ ((rd_T62 l1 x21_2).f0) then (if ((rd_T62 l1 x21_2).f0) < (x6_2.length : Int) then (if ((rd_T60 x6_2 ((rd_T62 l1 x21_2).f0)).f0) < ((rd_T62 l1 x21_2).f1) then (some (x6_2, x21_2)) else (impl_Burnt.l0 k2 (x6_2.set (((rd_T62 l1 x21_2).f0) : Int).toNat (⟨wrap64 (((rd_T60 x6_2 ((rd_T62 l1 x21_2).f0)).f0) - ((rd_T62 l1 x21_2).f1)), (rd_T60 x6_2 ((rd_T62 l1 x21_2).f0)).f1⟩ : S60)) l1 (l1.length : Int) (wrap64 (x21_2 + 1)))) else (none)) else (none)) else (some (x6_2, x21_2))) = some (r1, r2) := H
          have A16 := mk_ A160; clear A160; by_cases c17 : t244 = true
          ·subst c17
           have H1 : (if 0 ≤ ((rd_T62 l1 x21_2).f0) then (if ((rd_T62 l1 x21_2).f0) < (x6_2.length : Int) then (if ((rd_T60 x6_2 ((rd_T62 l1 x21_2).f0)).f0) < ((rd_T62 l1 x21_2).f1) then (some (x6_2, x21_2)) else (impl_Burnt.l0 k2 (x6_2.set (((rd_T62 l1 x21_2).f0) : Int).toNat (⟨wrap64 (((rd_T60 x6_2 ((rd_T62 l1 x21_2).f0)).f0) - ((rd_T62 l1 x21_2).f1)), (rd_T60 x6_2 ((rd_T62 l1 x21_2).f0)).f1⟩ : S60)) l1 (l1.length : Int) (wrap64 (x21_2 + 1)))) else (none)) else (none)) = some (r1, r2) := by rw [if_pos rfl] at H; exact H
           clear H
           have H := H1
           clear H1; by_cases c18 : 0 ≤ ((rd_T62 l1 x21_2).f0)
           ·rw [if_pos c18] at H; have c18b0 : decide (0 ≤ ((rd_T62 l1 x21_2).f0)) = true := decide_eq_true c18; clear c18; by_cases c19 : ((rd_T62 l1 x21_2).f0) < (x6_2.length : Int)
            ·rw [if_pos c19] at H; have c19b0 : decide (((rd_T62 l1 x21_2).f0) < (x6_2.length : Int)) = true := decide_eq_true c19; clear c19; by_cases c20 : ((rd_T60 x6_2 ((rd_T62 l1 x21_2).f0)).f0) < ((rd_T62 l1 x21_2).f1)
             ·rw [if_pos c20] at H; have c20b0 : decide (((rd_T60 x6_2 ((rd_T62 l1 x21_2).f0)).f0) < ((rd_T62 l1 x21_2).f1)) = true := decide_eq_true c20; clear c20
              simp only [Option.some.injEq, Prod.mk.injEq] at H
              obtain ⟨rfl, rfl⟩ := H
              have p241 : 0 ≤ (x21_2 : Int) := od_
              have q241 : x21_2 < (l1.length : Int) := od_
              obtain ⟨ad241, e241, hx241_0, hx241_1⟩ := at_T62 HR1.out x21_2 p241 q241; cases e241
              replace hx241_0 := (HB.out.cell (World.block_lt_of_cell? w _ hx241_0)).trans hx241_0
              replace hx241_1 := (HB.out.cell (World.block_lt_of_cell? w _ hx241_1)).trans hx241_1
              replace p241 := eq_true p241; replace q241 := eq_true q241
              try go_wp2_with (first | ((with_reducible refine gd_ 8 rfl ?_); (try (refine gate_guard (by rfl) ?_; dsimp only)); refine box_event ?hg (N := 8) ?hd (cs := #[.int .i64 0, .int .i64 0]) (t := 62) ?hr ?_; (case hd => rfl); (case hg => rfl); (case hr => exact hr_); intro gb242 hg w21 hbox hb; replace HO_6 := rb_ HO_6 hb; have BK242 := mk_ (hbox); have GW242 := gb_ hg HB; replace HB := bp_ HB hb; have GE242 := GW242; clear hb hbox hg; have hcz22_0 := bc0_ BK242; have hcz22_1 := bc1_ BK242; have hfz22_0 := bf_ BK242 0; have hfz22_1 := bf_ BK242 1))
              have n0_ : Aside0 (Kd.R k60 60 ((w21.setCell ⟨gb242, 0, none⟩ (.int .i64 ((rd_T62 l1 x21_2).f0))).setCell ⟨gb242, 1, none⟩ (.int .i64 ((rd_T62 l1 x21_2).f1))) w.heap.size (fun _ => True) v239 x6_2) := ⟨by (with_reducible repeat (first | apply Kd.R_alloc | apply Kd.R_drewN | apply Kd.R_drew)); exact Kd.R_mono (Kd.R_far (p := ⟨gb242, 1, none⟩) (Kd.R_far (p := ⟨gb242, 0, none⟩) (Kd.R_types HO_6.out BK242.out (by decide)) (fun _ hk => hk.2) (.int .i64 ((rd_T62 l1 x21_2).f0))) (fun _ hk => hk.2) (.int .i64 ((rd_T62 l1 x21_2).f1))) (fun _ hk => trivial)⟩
              have n1_ : Aside0 (((w21.setCell ⟨gb242, 0, none⟩ (.int .i64 ((rd_T62 l1 x21_2).f0))).setCell ⟨gb242, 1, none⟩ (.int .i64 ((rd_T62 l1 x21_2).f1))).heap[gb242]? = some (.cells #[.int .i64 ((rd_T62 l1 x21_2).f0), .int .i64 ((rd_T62 l1 x21_2).f1)] 62 (0, 0))) := ⟨by (with_reducible repeat (first | refine blk_drewN ?_ _ | refine blk_drew ?_ | refine blk_alloc ?_ _)); refine blk_put (cs := #[.int .i64 ((rd_T62 l1 x21_2).f0), .int .i64 0]) ?_ 1 _ rfl; (with_reducible repeat (first | refine blk_drewN ?_ _ | refine blk_drew ?_ | refine blk_alloc ?_ _)); refine blk_put (cs := #[.int .i64 0, .int .i64 0]) ?_ 0 _ rfl; (with_reducible repeat (first | refine blk_drewN ?_ _ | refine blk_drew ?_ | refine blk_alloc ?_ _)); exact BK242.out⟩
              have n2_ : Aside0 (Below w.heap.size w ((w21.setCell ⟨gb242, 0, none⟩ (.int .i64 ((rd_T62 l1 x21_2).f0))).setCell ⟨gb242, 1, none⟩ (.int .i64 ((rd_T62 l1 x21_2).f1)))) := ⟨by repeat (first | (with_reducible first | exact HB.out | apply below_alloc | apply pw_below_drewN | apply below_drew1 | refine below_set ?_ GE242.out) | exact HB.out)⟩
              (try clear HO_6); (try clear BK242); (try clear HB)
              generalize ((w21.setCell ⟨gb242, 0, none⟩ (.int .i64 ((rd_T62 l1 x21_2).f0))).setCell ⟨gb242, 1, none⟩ (.int .i64 ((rd_T62 l1 x21_2).f1))) = w23 at n0_ n1_ n2_ ⊢
              have HO_6 := n0_
              have BK242 := n1_
              have HB := n2_
              clear n0_ n1_ n2_
              replace HO_6 := dR_ HO_6; replace BK242 := dB_ BK242; replace HB := dH_ HB
              obtain ⟨Ao25, co25, eo25⟩ := Kd.R_slice HO_6.out
              (first | subst eo25 | (injection eo25 with f1_ f2_ f3_; have f4_ := f1_.symm; have f5_ := f3_.symm; clear f1_ f2_ f3_; subst f4_; subst f5_))
              have p245 : 0 ≤ (((rd_T62 l1 x21_2).f0) : Int) := od_
              have q245 : ((rd_T62 l1 x21_2).f0) < (x6_2.length : Int) := od_
              obtain ⟨ad245, e245, hx245_0, hx245_1⟩ := at_T60 (rr_ HO_6) ((rd_T62 l1 x21_2).f0) p245 q245; cases e245; replace p245 := eq_true p245; replace q245 := eq_true q245
              refine start_ (n := 24) (S := fun w' => w'.cell? ⟨gb242, 0, none⟩ = some (.int .i64 ((rd_T62 l1 x21_2).f0)) ∧ w'.cell? ⟨gb242, 1, none⟩ = some (.int .i64 ((rd_T62 l1 x21_2).f1)) ∧ w'.cell? (ad245.add ((((rd_T62 l1 x21_2).f0)).toNat * 2)) = some (.int .i64 ((rd_T60 x6_2 ((rd_T62 l1 x21_2).f0)).f0)) ∧ w'.cell? ⟨(ad245.add ((((rd_T62 l1 x21_2).f0)).toNat * 2)).block, (ad245.add ((((rd_T62 l1 x21_2).f0)).toNat * 2)).off + 1, none⟩ = some (.int .i64 ((rd_T60 x6_2 ((rd_T62 l1 x21_2).f0)).f1))) (ds := []) (bs_ 24 0) (by kernel_rfl) rfl (by kernel_rfl) ⟨bc0_ BK242, bc1_ BK242, hx245_0, hx245_1⟩ (fun hHeld => ?_); refine with_tabW impl_Burnt.tab7 impl_Burnt.bits7 (fun HT_ HW_ => ?_)
              generalize w23.drew = w24 at HO_6 BK242 HB hx245_0 hx245_1 hHeld ⊢
              refine pu_ HT_ 0 26 (bs_ 24 1) ?_; refine pu_ HT_ 2 28 (bs_ 24 5) ?_; refine pu_ HT_ 3 29 (bs_ 24 13) ?_; refine pu_ HT_ 4 30 (bs_ 24 29) ?_; refine tk_ HT_ HW_ 1 27 (bs_ 24 31) hHeld ?_
              refine one_ (i := 5) (N := some 31) (bs_ 24 63) rfl rfl (one_of HT_.out (by kernel_rfl)) (by decide) (fun K hK => ?_)
              refine gs_ Try.func48 #[.int .i64 ((rd_T62 l1 x21_2).f0), .int .i64 0, .int .i64 (wrap64 ((x6_2.length : Int) - 1))] ?_
              with_reducible refine (impl_in.calls ((rd_T62 l1 x21_2).f0) 0 (wrap64 ((x6_2.length : Int) - 1)) true _ A14.out).mono ?_
              rintro e w' ⟨rfl, ⟨nd, rfl⟩⟩
              refine ⟨_, rfl, ?_⟩
              refine hK.out _ _ ⟨bc0_ BK242, bc1_ BK242, hHeld.2.2.1, hHeld.2.2.2⟩ (fun hHeld => ?_)
              clear hK K; refine nm_ ?_; refine pu_ HT_ 6 32 (bs_ 24 127) ?_; refine pu_ HT_ 7 33 (bs_ 24 255) ?_; refine pu_ HT_ 8 34 (bs_ 24 511) ?_; refine tk_ HT_ HW_ 9 35 (bs_ 24 1023) hHeld ?_
              refine one_ (i := 10) (N := some 36) (bs_ 24 2047) rfl rfl (one_of HT_.out (by kernel_rfl)) (by decide) (fun K hK => ?_)
              refine gs_ Try.func48 #[.int .i64 ((rd_T62 l1 x21_2).f1), .int .i64 1, .int .i64 10000] ?_
              with_reducible refine (impl_in.calls ((rd_T62 l1 x21_2).f1) 1 10000 true _ A16.out).mono ?_
              rintro e w' ⟨rfl, ⟨nd, rfl⟩⟩
              refine ⟨_, rfl, ?_⟩
              refine hK.out _ _ ⟨bc0_ BK242, bc1_ BK242, hHeld.2.2.1, hHeld.2.2.2⟩ (fun hHeld => ?_)
              clear hK K; refine nm_ ?_; refine pu_ HT_ 11 37 (bs_ 24 4095) ?_; refine pu_ HT_ 12 38 (bs_ 24 8191) ?_; refine pu_ HT_ 13 39 (bs_ 24 16383) ?_; refine pu_ HT_ 14 40 (bs_ 24 32767) ?_; refine pu_ HT_ 15 41 (bs_ 24 65535) ?_; refine pu_ HT_ 20 46 (bs_ 24 1114111) ?_; refine tk_ HT_ HW_ 16 42 (bs_ 24 1179647) hHeld ?_; refine pu_ HT_ 17 43 (bs_ 24 1310719) ?_; refine pu_ HT_ 18 44 (bs_ 24 1572863) ?_; refine tk_ HT_ HW_ 19 45 (bs_ 24 2097151) hHeld ?_; refine tk_ HT_ HW_ 21 47 (bs_ 24 4194303) hHeld ?_; refine pu_ HT_ 22 48 (bs_ 24 8388607) ?_; refine pu_ HT_ 23 49 (bs_ 24 16777215) ?_
              refine done_ (done_of HT_.out (by kernel_rfl)) ?_
              try go_wp2
              go_ret2
              exact ⟨_, re_, by (with_reducible repeat (first | apply Kd.R_alloc | apply Kd.R_drewN | apply Kd.R_drew)); exact HO_6.out, hw_ HB⟩
             ·rw [if_neg c20] at H; have c20b0 : decide (((rd_T60 x6_2 ((rd_T62 l1 x21_2).f0)).f0) < ((rd_T62 l1 x21_2).f1)) = false := decide_eq_false c20; clear c20
              obtain ⟨y247, hy247⟩ : ∃ y_ : List (S60), y_ = (x6_2.set (((rd_T62 l1 x21_2).f0) : Int).toNat (⟨wrap64 (((rd_T60 x6_2 ((rd_T62 l1 x21_2).f0)).f0) - ((rd_T62 l1 x21_2).f1)), (rd_T60 x6_2 ((rd_T62 l1 x21_2).f0)).f1⟩ : S60)) := ⟨_, rfl⟩
              replace H : (impl_Burnt.l0 k2 y247 l1 (l1.length : Int) (wrap64 (x21_2 + 1))) = some (r1, r2) := by first | (rw [hy247]; with_reducible exact H) | (have H2_ := (Option.bind_some _ _).symm.trans H; rw [hy247]; with_reducible exact H2_) | (have H2_ := (Option.bind_some _ _).symm.trans H; with_reducible exact H2_) | with_reducible exact H | (rw [hy247]; exact H) | exact H
              have Ny247 := mk_ hy247; clear hy247
              have H' := mk_ H
              clear H
              have p241 : 0 ≤ (x21_2 : Int) := od_
              have q241 : x21_2 < (l1.length : Int) := od_
              obtain ⟨ad241, e241, hx241_0, hx241_1⟩ := at_T62 HR1.out x21_2 p241 q241; cases e241
              replace hx241_0 := (HB.out.cell (World.block_lt_of_cell? w _ hx241_0)).trans hx241_0
              replace hx241_1 := (HB.out.cell (World.block_lt_of_cell? w _ hx241_1)).trans hx241_1
              replace p241 := eq_true p241; replace q241 := eq_true q241
              try go_wp2_with (first | ((with_reducible refine gd_ 8 rfl ?_); (try (refine gate_guard (by rfl) ?_; dsimp only)); refine box_event ?hg (N := 8) ?hd (cs := #[.int .i64 0, .int .i64 0]) (t := 62) ?hr ?_; (case hd => rfl); (case hg => rfl); (case hr => exact hr_); intro gb242 hg w27 hbox hb; replace HO_6 := rb_ HO_6 hb; have BK242 := mk_ (hbox); have GW242 := gb_ hg HB; replace HB := bp_ HB hb; have GE242 := GW242; clear hb hbox hg; have hcz28_0 := bc0_ BK242; have hcz28_1 := bc1_ BK242; have hfz28_0 := bf_ BK242 0; have hfz28_1 := bf_ BK242 1))
              have n0_ : Aside0 (Kd.R k60 60 ((w27.setCell ⟨gb242, 0, none⟩ (.int .i64 ((rd_T62 l1 x21_2).f0))).setCell ⟨gb242, 1, none⟩ (.int .i64 ((rd_T62 l1 x21_2).f1))) w.heap.size (fun _ => True) v239 x6_2) := ⟨by (with_reducible repeat (first | apply Kd.R_alloc | apply Kd.R_drewN | apply Kd.R_drew)); exact Kd.R_mono (Kd.R_far (p := ⟨gb242, 1, none⟩) (Kd.R_far (p := ⟨gb242, 0, none⟩) (Kd.R_types HO_6.out BK242.out (by decide)) (fun _ hk => hk.2) (.int .i64 ((rd_T62 l1 x21_2).f0))) (fun _ hk => hk.2) (.int .i64 ((rd_T62 l1 x21_2).f1))) (fun _ hk => trivial)⟩
              have n1_ : Aside0 (((w27.setCell ⟨gb242, 0, none⟩ (.int .i64 ((rd_T62 l1 x21_2).f0))).setCell ⟨gb242, 1, none⟩ (.int .i64 ((rd_T62 l1 x21_2).f1))).heap[gb242]? = some (.cells #[.int .i64 ((rd_T62 l1 x21_2).f0), .int .i64 ((rd_T62 l1 x21_2).f1)] 62 (0, 0))) := ⟨by (with_reducible repeat (first | refine blk_drewN ?_ _ | refine blk_drew ?_ | refine blk_alloc ?_ _)); refine blk_put (cs := #[.int .i64 ((rd_T62 l1 x21_2).f0), .int .i64 0]) ?_ 1 _ rfl; (with_reducible repeat (first | refine blk_drewN ?_ _ | refine blk_drew ?_ | refine blk_alloc ?_ _)); refine blk_put (cs := #[.int .i64 0, .int .i64 0]) ?_ 0 _ rfl; (with_reducible repeat (first | refine blk_drewN ?_ _ | refine blk_drew ?_ | refine blk_alloc ?_ _)); exact BK242.out⟩
              have n2_ : Aside0 (Below w.heap.size w ((w27.setCell ⟨gb242, 0, none⟩ (.int .i64 ((rd_T62 l1 x21_2).f0))).setCell ⟨gb242, 1, none⟩ (.int .i64 ((rd_T62 l1 x21_2).f1)))) := ⟨by repeat (first | (with_reducible first | exact HB.out | apply below_alloc | apply pw_below_drewN | apply below_drew1 | refine below_set ?_ GE242.out) | exact HB.out)⟩
              (try clear HO_6); (try clear BK242); (try clear HB)
              generalize ((w27.setCell ⟨gb242, 0, none⟩ (.int .i64 ((rd_T62 l1 x21_2).f0))).setCell ⟨gb242, 1, none⟩ (.int .i64 ((rd_T62 l1 x21_2).f1))) = w29 at n0_ n1_ n2_ ⊢
              have HO_6 := n0_
              have BK242 := n1_
              have HB := n2_
              clear n0_ n1_ n2_
              replace HO_6 := dR_ HO_6; replace BK242 := dB_ BK242; replace HB := dH_ HB
              obtain ⟨Ao31, co31, eo31⟩ := Kd.R_slice HO_6.out
              (first | subst eo31 | (injection eo31 with f1_ f2_ f3_; have f4_ := f1_.symm; have f5_ := f3_.symm; clear f1_ f2_ f3_; subst f4_; subst f5_))
              have p245 : 0 ≤ (((rd_T62 l1 x21_2).f0) : Int) := od_
              have q245 : ((rd_T62 l1 x21_2).f0) < (x6_2.length : Int) := od_
              obtain ⟨ad245, e245, hx245_0, hx245_1⟩ := at_T60 (rr_ HO_6) ((rd_T62 l1 x21_2).f0) p245 q245; cases e245; replace p245 := eq_true p245; replace q245 := eq_true q245
              refine start_ (n := 24) (S := fun w' => w'.cell? ⟨gb242, 0, none⟩ = some (.int .i64 ((rd_T62 l1 x21_2).f0)) ∧ w'.cell? ⟨gb242, 1, none⟩ = some (.int .i64 ((rd_T62 l1 x21_2).f1)) ∧ w'.cell? (ad245.add ((((rd_T62 l1 x21_2).f0)).toNat * 2)) = some (.int .i64 ((rd_T60 x6_2 ((rd_T62 l1 x21_2).f0)).f0)) ∧ w'.cell? ⟨(ad245.add ((((rd_T62 l1 x21_2).f0)).toNat * 2)).block, (ad245.add ((((rd_T62 l1 x21_2).f0)).toNat * 2)).off + 1, none⟩ = some (.int .i64 ((rd_T60 x6_2 ((rd_T62 l1 x21_2).f0)).f1))) (ds := []) (bs_ 24 0) (by kernel_rfl) rfl (by kernel_rfl) ⟨bc0_ BK242, bc1_ BK242, hx245_0, hx245_1⟩ (fun hHeld => ?_); refine with_tabW impl_Burnt.tab7 impl_Burnt.bits7 (fun HT_ HW_ => ?_)
              generalize w29.drew = w30 at HO_6 BK242 HB hx245_0 hx245_1 hHeld ⊢
              refine pu_ HT_ 0 26 (bs_ 24 1) ?_; refine pu_ HT_ 2 28 (bs_ 24 5) ?_; refine pu_ HT_ 3 29 (bs_ 24 13) ?_; refine pu_ HT_ 4 30 (bs_ 24 29) ?_; refine tk_ HT_ HW_ 1 27 (bs_ 24 31) hHeld ?_
              refine one_ (i := 5) (N := some 31) (bs_ 24 63) rfl rfl (one_of HT_.out (by kernel_rfl)) (by decide) (fun K hK => ?_)
              refine gs_ Try.func48 #[.int .i64 ((rd_T62 l1 x21_2).f0), .int .i64 0, .int .i64 (wrap64 ((x6_2.length : Int) - 1))] ?_
              with_reducible refine (impl_in.calls ((rd_T62 l1 x21_2).f0) 0 (wrap64 ((x6_2.length : Int) - 1)) true _ A14.out).mono ?_
              rintro e w' ⟨rfl, ⟨nd, rfl⟩⟩
              refine ⟨_, rfl, ?_⟩
              refine hK.out _ _ ⟨bc0_ BK242, bc1_ BK242, hHeld.2.2.1, hHeld.2.2.2⟩ (fun hHeld => ?_)
              clear hK K; refine nm_ ?_; refine pu_ HT_ 6 32 (bs_ 24 127) ?_; refine pu_ HT_ 7 33 (bs_ 24 255) ?_; refine pu_ HT_ 8 34 (bs_ 24 511) ?_; refine tk_ HT_ HW_ 9 35 (bs_ 24 1023) hHeld ?_
              refine one_ (i := 10) (N := some 36) (bs_ 24 2047) rfl rfl (one_of HT_.out (by kernel_rfl)) (by decide) (fun K hK => ?_)
              refine gs_ Try.func48 #[.int .i64 ((rd_T62 l1 x21_2).f1), .int .i64 1, .int .i64 10000] ?_
              with_reducible refine (impl_in.calls ((rd_T62 l1 x21_2).f1) 1 10000 true _ A16.out).mono ?_
              rintro e w' ⟨rfl, ⟨nd, rfl⟩⟩
              refine ⟨_, rfl, ?_⟩
              refine hK.out _ _ ⟨bc0_ BK242, bc1_ BK242, hHeld.2.2.1, hHeld.2.2.2⟩ (fun hHeld => ?_)
              clear hK K; refine nm_ ?_; refine pu_ HT_ 11 37 (bs_ 24 4095) ?_; refine pu_ HT_ 12 38 (bs_ 24 8191) ?_; refine pu_ HT_ 13 39 (bs_ 24 16383) ?_; refine pu_ HT_ 14 40 (bs_ 24 32767) ?_; refine pu_ HT_ 15 41 (bs_ 24 65535) ?_; refine pu_ HT_ 20 46 (bs_ 24 1114111) ?_; refine tk_ HT_ HW_ 16 42 (bs_ 24 1179647) hHeld ?_; refine pu_ HT_ 17 43 (bs_ 24 1310719) ?_; refine pu_ HT_ 18 44 (bs_ 24 1572863) ?_; refine tk_ HT_ HW_ 19 45 (bs_ 24 2097151) hHeld ?_; refine tk_ HT_ HW_ 21 47 (bs_ 24 4194303) hHeld ?_; refine pu_ HT_ 22 48 (bs_ 24 8388607) ?_; refine pu_ HT_ 23 49 (bs_ 24 16777215) ?_
              refine done_ (done_of HT_.out (by kernel_rfl)) ?_
              try go_wp2
              (first | (rw [World.drewN_drewN]; (repeat rw [World.drewN_drewN]); generalize hq_ : World.drewN w30 _ = w30; have n0_ : Aside0 (Kd.R k60 60 w30 w.heap.size (fun k_ => True) (.slice (some ad245) x6_2.length co31) x6_2) := ⟨by rw [← hq_]; exact (kx_ HO_6)⟩; have n1_ : Aside0 (w30.heap[gb242]? = some (.cells #[.int .i64 ((rd_T62 l1 x21_2).f0), .int .i64 ((rd_T62 l1 x21_2).f1)] 62 (0, 0))) := ⟨by rw [← hq_]; exact (bx_ BK242)⟩; have n2_ : Aside0 (Below w.heap.size w w30) := ⟨by rw [← hq_]; exact (hw_ HB)⟩; clear HO_6 BK242 HB hq_; have HO_6 := n0_; have BK242 := n1_; have HB := n2_; clear n0_ n1_ n2_) | (rw [(rfl : World.drewN w30 nd = World.drewN w30 nd)]; generalize hq_ : World.drewN w30 nd = w30; have n0_ : Aside0 (Kd.R k60 60 w30 w.heap.size (fun k_ => True) (.slice (some ad245) x6_2.length co31) x6_2) := ⟨by rw [← hq_]; exact (kx_ HO_6)⟩; have n1_ : Aside0 (w30.heap[gb242]? = some (.cells #[.int .i64 ((rd_T62 l1 x21_2).f0), .int .i64 ((rd_T62 l1 x21_2).f1)] 62 (0, 0))) := ⟨by rw [← hq_]; exact (bx_ BK242)⟩; have n2_ : Aside0 (Below w.heap.size w w30) := ⟨by rw [← hq_]; exact (hw_ HB)⟩; clear HO_6 BK242 HB hq_; have HO_6 := n0_; have BK242 := n1_; have HB := n2_; clear n0_ n1_ n2_) | (try (rw [drewN_self w30]; generalize hq_ : World.drewN w30 _ = w30; have n0_ := qR_ hq_ HO_6; have n1_ := qB_ hq_ BK242; have n2_ := qH_ hq_ HB; clear HO_6 BK242 HB hq_; have HO_6 := n0_; have BK242 := n1_; have HB := n2_; clear n0_ n1_ n2_)))
              replace HO_6 := dR_ HO_6; replace BK242 := dB_ BK242; replace HB := dH_ HB
              have p246 : 0 ≤ (((rd_T62 l1 x21_2).f0) : Int) := od_
              have q246 : ((rd_T62 l1 x21_2).f0) < (x6_2.length : Int) := od_
              obtain ⟨ad246, e246, hx246_0, hx246_1⟩ := at_T60 (rr_ HO_6) ((rd_T62 l1 x21_2).f0) p246 q246; obtain rfl : ad245 = ad246 := (by injection e246); replace p246 := eq_true p246; replace q246 := eq_true q246
              have p26 : 0 ≤ (((rd_T62 l1 x21_2).f0) : Int) := od_
              have q26 : (((rd_T62 l1 x21_2).f0) : Int) < ((x6_2.length : Int) : Int) := od_
              obtain ⟨go26, co26, eo26, gb26, gl26, cl26, HG26⟩ := Kd.R_form HO_6.out (by omega)
              (first | cases eo26 | (injection eo26 with ea_ en_ ec_; (first | subst ea_ | (injection ea_ with ea_; subst ea_)); subst ec_; clear en_))
              have GB26 := mk_ gb26; have GG26 := mk_ HG26; clear gb26 gl26 HG26
              (first | simp only [add_plain] at hx245_0 | skip)
              (first | simp only [add_plain] at hx245_1 | skip)
              (first | simp only [add_plain] at hx246_0 | skip)
              (first | simp only [add_plain] at hx246_1 | skip)
              obtain ⟨ce26, hcl26, hM26, hcc26, hfr26⟩ := Kd.R_elem HO_6.out z60 (((rd_T62 l1 x21_2).f0) : Int) p26 q26
              obtain rfl := k60_openM hM26
              have hx26_0 : World.cell? _ ⟨go26, (((rd_T62 l1 x21_2).f0) : Int).toNat * 2, none⟩ = some (.int .i64 ((rd_T60 x6_2 ((rd_T62 l1 x21_2).f0)).f0)) := hcc26 0 _ rfl
              have hx26_1 : World.cell? _ ⟨go26, (((rd_T62 l1 x21_2).f0) : Int).toNat * 2 + 1, none⟩ = some (.int .i64 ((rd_T60 x6_2 ((rd_T62 l1 x21_2).f0)).f1)) := hcc26 1 _ rfl
              have hf26_0 : World.frozen? _ ⟨go26, (((rd_T62 l1 x21_2).f0) : Int).toNat * 2, none⟩ = false := hfr26 0
              have hf26_1 : World.frozen? _ ⟨go26, (((rd_T62 l1 x21_2).f0) : Int).toNat * 2 + 1, none⟩ = false := hfr26 1
              clear hcl26 hcc26 hfr26; (try clear hM26); replace p26 := eq_true p26; replace q26 := eq_true q26
              obtain ⟨ce33, hcl33, hM33, hcc33, hfr33⟩ := Kd.R_elem HO_6.out z60 (((rd_T62 l1 x21_2).f0) : Int) (od_) (by have h_ : (((rd_T62 l1 x21_2).f0) : Int) < ((x6_2.length : Int) : Int) := od_; first | exact h_ | (have e_ := (Kd.R_reads' HO_6.out).1; omega) | simpa using h_)
              obtain rfl := k60_openM hM33
              have HP33 := (Kd.R_seg HO_6.out (((rd_T62 l1 x21_2).f0) : Int) (od_) (by have h_ : (((rd_T62 l1 x21_2).f0) : Int) < ((x6_2.length : Int) : Int) := od_; first | exact h_ | (have e_ := (Kd.R_reads' HO_6.out).1; omega) | simpa using h_) (seg := [.int .i64 (wrap64 (((rd_T60 x6_2 ((rd_T62 l1 x21_2).f0)).f0) - ((rd_T62 l1 x21_2).f1)))]) (j := 0) hcl33 hcc33 (show 1 ≤ 2 from by decide) (x' := (⟨wrap64 (((rd_T60 x6_2 ((rd_T62 l1 x21_2).f0)).f0) - ((rd_T62 l1 x21_2).f1)), (rd_T60 x6_2 ((rd_T62 l1 x21_2).f0)).f1⟩ : S60)) (k60_mkM _ _ _ (⟨wrap64 (((rd_T60 x6_2 ((rd_T62 l1 x21_2).f0)).f0) - ((rd_T62 l1 x21_2).f1)), (rd_T60 x6_2 ((rd_T62 l1 x21_2).f0)).f1⟩ : S60) ) (fun _ hk => hk)).1
              rw [← Ny247.out] at HP33
              have HQ33 := mk_ HP33; clear hcl33 hcc33 hfr33 HP33; (try clear hM33)
              refine start_ (n := 12) (S := fun w' => w'.cell? ⟨gb242, 0, none⟩ = some (.int .i64 ((rd_T62 l1 x21_2).f0)) ∧ w'.cell? ⟨gb242, 1, none⟩ = some (.int .i64 ((rd_T62 l1 x21_2).f1)) ∧ w'.cell? ⟨go26, ((((rd_T62 l1 x21_2).f0)).toNat * 2), none⟩ = some (.int .i64 ((rd_T60 x6_2 ((rd_T62 l1 x21_2).f0)).f0)) ∧ w'.cell? ⟨go26, ((((rd_T62 l1 x21_2).f0)).toNat * 2) + 1, none⟩ = some (.int .i64 ((rd_T60 x6_2 ((rd_T62 l1 x21_2).f0)).f1))) (ds := [11]) (bs_ 12 0) (by kernel_rfl) rfl (by kernel_rfl) ⟨bc0_ BK242, bc1_ BK242, hx246_0, hx246_1⟩ (fun hHeld => ?_); refine with_tabW impl_Burnt.tab9 impl_Burnt.bits9 (fun HT_ HW_ => ?_)
              generalize w30.drew = w32 at HO_6 BK242 HB GG26 HQ33 hf26_0 hf26_1 hx245_0 hx245_1 hx246_0 hx246_1 hx26_0 hx26_1 hHeld ⊢
              refine pu_ HT_ 0 52 (bs_ 12 1) ?_; refine pu_ HT_ 1 53 (bs_ 12 3) ?_; refine pu_ HT_ 6 58 (bs_ 12 67) ?_; refine tk_ HT_ HW_ 2 54 (bs_ 12 71) hHeld ?_; refine pu_ HT_ 3 55 (bs_ 12 79) ?_; refine pu_ HT_ 4 56 (bs_ 12 95) ?_; refine tk_ HT_ HW_ 5 57 (bs_ 12 127) hHeld ?_; refine tk_ HT_ HW_ 7 59 (bs_ 12 255) hHeld ?_; refine pu_ HT_ 8 60 (bs_ 12 511) ?_; refine pu_ HT_ 9 61 (bs_ 12 1023) ?_; refine pu_ HT_ 10 62 (bs_ 12 2047) ?_
              refine last_ (i := 11) (N := none) (bs_ 12 4095) rfl rfl (one_of HT_.out (by kernel_rfl)) (by decide) (fun K hK => ?_)
              refine skip_ (w1 := ?_) (by rfl) rfl ?_ ?_
              rotate_left
              ·go_simp
               rfl
              refine hK.out _ _ ?_
              clear hK K
              refine done_ (done_of HT_.out (by kernel_rfl)) ?_
              try go_wp2
              go_roundg k2
              case measure => have := HJ2.out; have := HK2.out; omega
              case rel => exact ⟨(y247), (wrap64 (x21_2 + 1)), rf_, H', ⟨by have := HJ2.out; have := HK2.out; omega⟩, kw_ HQ33, ⟨by repeat (first | (with_reducible first | exact HB.out | apply below_alloc | apply pw_below_drewN | apply below_drew1 | refine below_set ?_ GB26.out) | exact HB.out)⟩⟩
            ·rw [if_neg c19] at H
             exact absurd H (by simp)
           ·rw [if_neg c18] at H
            exact absurd H (by simp)
          ·replace c17 := Bool.eq_false_iff.mpr c17; subst c17
           have H1 : (some (x6_2, x21_2)) = some (r1, r2) := by rw [if_neg (show ¬ (false = true) by decide)] at H; exact H
           clear H
           have H := H1
           clear H1
           simp only [Option.some.injEq, Prod.mk.injEq] at H
           obtain ⟨rfl, rfl⟩ := H
           have p241 : 0 ≤ (x21_2 : Int) := od_
           have q241 : x21_2 < (l1.length : Int) := od_
           obtain ⟨ad241, e241, hx241_0, hx241_1⟩ := at_T62 HR1.out x21_2 p241 q241; cases e241
           replace hx241_0 := (HB.out.cell (World.block_lt_of_cell? w _ hx241_0)).trans hx241_0
           replace hx241_1 := (HB.out.cell (World.block_lt_of_cell? w _ hx241_1)).trans hx241_1
           replace p241 := eq_true p241; replace q241 := eq_true q241
           try go_wp2_with (first | ((with_reducible refine gd_ 8 rfl ?_); (try (refine gate_guard (by rfl) ?_; dsimp only)); refine box_event ?hg (N := 8) ?hd (cs := #[.int .i64 0, .int .i64 0]) (t := 62) ?hr ?_; (case hd => rfl); (case hg => rfl); (case hr => exact hr_); intro gb242 hg w34 hbox hb; replace HO_6 := rb_ HO_6 hb; have BK242 := mk_ (hbox); have GW242 := gb_ hg HB; replace HB := bp_ HB hb; have GE242 := GW242; clear hb hbox hg; have hcz35_0 := bc0_ BK242; have hcz35_1 := bc1_ BK242; have hfz35_0 := bf_ BK242 0; have hfz35_1 := bf_ BK242 1))
           have n0_ : Aside0 (Kd.R k60 60 ((w34.setCell ⟨gb242, 0, none⟩ (.int .i64 ((rd_T62 l1 x21_2).f0))).setCell ⟨gb242, 1, none⟩ (.int .i64 ((rd_T62 l1 x21_2).f1))) w.heap.size (fun _ => True) v239 x6_2) := ⟨by (with_reducible repeat (first | apply Kd.R_alloc | apply Kd.R_drewN | apply Kd.R_drew)); exact Kd.R_mono (Kd.R_far (p := ⟨gb242, 1, none⟩) (Kd.R_far (p := ⟨gb242, 0, none⟩) (Kd.R_types HO_6.out BK242.out (by decide)) (fun _ hk => hk.2) (.int .i64 ((rd_T62 l1 x21_2).f0))) (fun _ hk => hk.2) (.int .i64 ((rd_T62 l1 x21_2).f1))) (fun _ hk => trivial)⟩
           have n1_ : Aside0 (((w34.setCell ⟨gb242, 0, none⟩ (.int .i64 ((rd_T62 l1 x21_2).f0))).setCell ⟨gb242, 1, none⟩ (.int .i64 ((rd_T62 l1 x21_2).f1))).heap[gb242]? = some (.cells #[.int .i64 ((rd_T62 l1 x21_2).f0), .int .i64 ((rd_T62 l1 x21_2).f1)] 62 (0, 0))) := ⟨by (with_reducible repeat (first | refine blk_drewN ?_ _ | refine blk_drew ?_ | refine blk_alloc ?_ _)); refine blk_put (cs := #[.int .i64 ((rd_T62 l1 x21_2).f0), .int .i64 0]) ?_ 1 _ rfl; (with_reducible repeat (first | refine blk_drewN ?_ _ | refine blk_drew ?_ | refine blk_alloc ?_ _)); refine blk_put (cs := #[.int .i64 0, .int .i64 0]) ?_ 0 _ rfl; (with_reducible repeat (first | refine blk_drewN ?_ _ | refine blk_drew ?_ | refine blk_alloc ?_ _)); exact BK242.out⟩
           have n2_ : Aside0 (Below w.heap.size w ((w34.setCell ⟨gb242, 0, none⟩ (.int .i64 ((rd_T62 l1 x21_2).f0))).setCell ⟨gb242, 1, none⟩ (.int .i64 ((rd_T62 l1 x21_2).f1)))) := ⟨by repeat (first | (with_reducible first | exact HB.out | apply below_alloc | apply pw_below_drewN | apply below_drew1 | refine below_set ?_ GE242.out) | exact HB.out)⟩
           (try clear HO_6); (try clear BK242); (try clear HB)
           generalize ((w34.setCell ⟨gb242, 0, none⟩ (.int .i64 ((rd_T62 l1 x21_2).f0))).setCell ⟨gb242, 1, none⟩ (.int .i64 ((rd_T62 l1 x21_2).f1))) = w36 at n0_ n1_ n2_ ⊢
           have HO_6 := n0_
           have BK242 := n1_
           have HB := n2_
           clear n0_ n1_ n2_
           replace HO_6 := dR_ HO_6; replace BK242 := dB_ BK242; replace HB := dH_ HB
           obtain ⟨Ao38, co38, eo38⟩ := Kd.R_slice HO_6.out
           (first | subst eo38 | (injection eo38 with f1_ f2_ f3_; have f4_ := f1_.symm; have f5_ := f3_.symm; clear f1_ f2_ f3_; subst f4_; subst f5_))
           refine start_ (n := 24) (S := fun w' => w'.cell? ⟨gb242, 0, none⟩ = some (.int .i64 ((rd_T62 l1 x21_2).f0)) ∧ w'.cell? ⟨gb242, 1, none⟩ = some (.int .i64 ((rd_T62 l1 x21_2).f1))) (ds := []) (bs_ 24 0) (by kernel_rfl) rfl (by kernel_rfl) ⟨bc0_ BK242, bc1_ BK242⟩ (fun hHeld => ?_); refine with_tabW impl_Burnt.tab7 impl_Burnt.bits7 (fun HT_ HW_ => ?_)
           generalize w36.drew = w37 at HO_6 BK242 HB hHeld ⊢
           refine pu_ HT_ 0 26 (bs_ 24 1) ?_; refine pu_ HT_ 2 28 (bs_ 24 5) ?_; refine pu_ HT_ 3 29 (bs_ 24 13) ?_; refine pu_ HT_ 4 30 (bs_ 24 29) ?_; refine tk_ HT_ HW_ 1 27 (bs_ 24 31) hHeld ?_
           refine one_ (i := 5) (N := some 31) (bs_ 24 63) rfl rfl (one_of HT_.out (by kernel_rfl)) (by decide) (fun K hK => ?_)
           refine gs_ Try.func48 #[.int .i64 ((rd_T62 l1 x21_2).f0), .int .i64 0, .int .i64 (wrap64 ((x6_2.length : Int) - 1))] ?_
           with_reducible refine (impl_in.calls ((rd_T62 l1 x21_2).f0) 0 (wrap64 ((x6_2.length : Int) - 1)) true _ A14.out).mono ?_
           rintro e w' ⟨rfl, ⟨nd, rfl⟩⟩
           refine ⟨_, rfl, ?_⟩
           refine hK.out _ _ ⟨bc0_ BK242, bc1_ BK242⟩ (fun hHeld => ?_)
           clear hK K; refine nm_ ?_; refine pu_ HT_ 6 32 (bs_ 24 127) ?_; refine pu_ HT_ 7 33 (bs_ 24 255) ?_; refine pu_ HT_ 8 34 (bs_ 24 511) ?_; refine tk_ HT_ HW_ 9 35 (bs_ 24 1023) hHeld ?_
           refine one_ (i := 10) (N := some 36) (bs_ 24 2047) rfl rfl (one_of HT_.out (by kernel_rfl)) (by decide) (fun K hK => ?_)
           refine gs_ Try.func48 #[.int .i64 ((rd_T62 l1 x21_2).f1), .int .i64 1, .int .i64 10000] ?_
           with_reducible refine (impl_in.calls ((rd_T62 l1 x21_2).f1) 1 10000 false _ A16.out).mono ?_
           rintro e w' ⟨rfl, ⟨nd, rfl⟩⟩
           refine ⟨_, rfl, ?_⟩
           refine hK.out _ _ ⟨bc0_ BK242, bc1_ BK242⟩ (fun hHeld => ?_)
           clear hK K; refine nm_ ?_; refine pu_ HT_ 11 37 (bs_ 24 4095) ?_; refine pu_ HT_ 12 38 (bs_ 24 8191) ?_; refine pu_ HT_ 13 39 (bs_ 24 16383) ?_; refine pn_ HT_ 14 40 (bs_ 24 32767) ?_; refine pn_ HT_ 15 41 (bs_ 24 65535) ?_; refine pn_ HT_ 16 42 (bs_ 24 131071) ?_; refine pn_ HT_ 17 43 (bs_ 24 262143) ?_; refine pn_ HT_ 18 44 (bs_ 24 524287) ?_; refine pn_ HT_ 19 45 (bs_ 24 1048575) ?_; refine pn_ HT_ 20 46 (bs_ 24 2097151) ?_; refine pn_ HT_ 21 47 (bs_ 24 4194303) ?_; refine pn_ HT_ 22 48 (bs_ 24 8388607) ?_; refine pu_ HT_ 23 49 (bs_ 24 16777215) ?_
           refine done_ (done_of HT_.out (by kernel_rfl)) ?_
           try go_wp2
           go_ret2
           exact ⟨_, re_, by (with_reducible repeat (first | apply Kd.R_alloc | apply Kd.R_drewN | apply Kd.R_drew)); exact HO_6.out, hw_ HB⟩
         ·replace c15 := Bool.eq_false_iff.mpr c15; subst c15
          have H1 : (some (x6_2, x21_2)) = some (r1, r2) := by rw [if_neg (show ¬ (false = true) by decide)] at H; exact H
          clear H
          have H := H1
          clear H1
          simp only [Option.some.injEq, Prod.mk.injEq] at H
          obtain ⟨rfl, rfl⟩ := H
          have p241 : 0 ≤ (x21_2 : Int) := od_
          have q241 : x21_2 < (l1.length : Int) := od_
          obtain ⟨ad241, e241, hx241_0, hx241_1⟩ := at_T62 HR1.out x21_2 p241 q241; cases e241
          replace hx241_0 := (HB.out.cell (World.block_lt_of_cell? w _ hx241_0)).trans hx241_0
          replace hx241_1 := (HB.out.cell (World.block_lt_of_cell? w _ hx241_1)).trans hx241_1
          replace p241 := eq_true p241; replace q241 := eq_true q241
          try go_wp2_with (first | ((with_reducible refine gd_ 8 rfl ?_); (try (refine gate_guard (by rfl) ?_; dsimp only)); refine box_event ?hg (N := 8) ?hd (cs := #[.int .i64 0, .int .i64 0]) (t := 62) ?hr ?_; (case hd => rfl); (case hg => rfl); (case hr => exact hr_); intro gb242 hg w39 hbox hb; replace HO_6 := rb_ HO_6 hb; have BK242 := mk_ (hbox); have GW242 := gb_ hg HB; replace HB := bp_ HB hb; have GE242 := GW242; clear hb hbox hg; have hcz40_0 := bc0_ BK242; have hcz40_1 := bc1_ BK242; have hfz40_0 := bf_ BK242 0; have hfz40_1 := bf_ BK242 1))
          have n0_ : Aside0 (Kd.R k60 60 ((w39.setCell ⟨gb242, 0, none⟩ (.int .i64 ((rd_T62 l1 x21_2).f0))).setCell ⟨gb242, 1, none⟩ (.int .i64 ((rd_T62 l1 x21_2).f1))) w.heap.size (fun _ => True) v239 x6_2) := ⟨by (with_reducible repeat (first | apply Kd.R_alloc | apply Kd.R_drewN | apply Kd.R_drew)); exact Kd.R_mono (Kd.R_far (p := ⟨gb242, 1, none⟩) (Kd.R_far (p := ⟨gb242, 0, none⟩) (Kd.R_types HO_6.out BK242.out (by decide)) (fun _ hk => hk.2) (.int .i64 ((rd_T62 l1 x21_2).f0))) (fun _ hk => hk.2) (.int .i64 ((rd_T62 l1 x21_2).f1))) (fun _ hk => trivial)⟩
          have n1_ : Aside0 (((w39.setCell ⟨gb242, 0, none⟩ (.int .i64 ((rd_T62 l1 x21_2).f0))).setCell ⟨gb242, 1, none⟩ (.int .i64 ((rd_T62 l1 x21_2).f1))).heap[gb242]? = some (.cells #[.int .i64 ((rd_T62 l1 x21_2).f0), .int .i64 ((rd_T62 l1 x21_2).f1)] 62 (0, 0))) := ⟨by (with_reducible repeat (first | refine blk_drewN ?_ _ | refine blk_drew ?_ | refine blk_alloc ?_ _)); refine blk_put (cs := #[.int .i64 ((rd_T62 l1 x21_2).f0), .int .i64 0]) ?_ 1 _ rfl; (with_reducible repeat (first | refine blk_drewN ?_ _ | refine blk_drew ?_ | refine blk_alloc ?_ _)); refine blk_put (cs := #[.int .i64 0, .int .i64 0]) ?_ 0 _ rfl; (with_reducible repeat (first | refine blk_drewN ?_ _ | refine blk_drew ?_ | refine blk_alloc ?_ _)); exact BK242.out⟩
          have n2_ : Aside0 (Below w.heap.size w ((w39.setCell ⟨gb242, 0, none⟩ (.int .i64 ((rd_T62 l1 x21_2).f0))).setCell ⟨gb242, 1, none⟩ (.int .i64 ((rd_T62 l1 x21_2).f1)))) := ⟨by repeat (first | (with_reducible first | exact HB.out | apply below_alloc | apply pw_below_drewN | apply below_drew1 | refine below_set ?_ GE242.out) | exact HB.out)⟩
          (try clear HO_6); (try clear BK242); (try clear HB)
          generalize ((w39.setCell ⟨gb242, 0, none⟩ (.int .i64 ((rd_T62 l1 x21_2).f0))).setCell ⟨gb242, 1, none⟩ (.int .i64 ((rd_T62 l1 x21_2).f1))) = w41 at n0_ n1_ n2_ ⊢
          have HO_6 := n0_
          have BK242 := n1_
          have HB := n2_
          clear n0_ n1_ n2_
          replace HO_6 := dR_ HO_6; replace BK242 := dB_ BK242; replace HB := dH_ HB
          obtain ⟨Ao43, co43, eo43⟩ := Kd.R_slice HO_6.out
          (first | subst eo43 | (injection eo43 with f1_ f2_ f3_; have f4_ := f1_.symm; have f5_ := f3_.symm; clear f1_ f2_ f3_; subst f4_; subst f5_))
          refine start_ (n := 24) (S := fun w' => w'.cell? ⟨gb242, 0, none⟩ = some (.int .i64 ((rd_T62 l1 x21_2).f0)) ∧ w'.cell? ⟨gb242, 1, none⟩ = some (.int .i64 ((rd_T62 l1 x21_2).f1))) (ds := []) (bs_ 24 0) (by kernel_rfl) rfl (by kernel_rfl) ⟨bc0_ BK242, bc1_ BK242⟩ (fun hHeld => ?_); refine with_tabW impl_Burnt.tab7 impl_Burnt.bits7 (fun HT_ HW_ => ?_)
          generalize w41.drew = w42 at HO_6 BK242 HB hHeld ⊢
          refine pu_ HT_ 0 26 (bs_ 24 1) ?_; refine pu_ HT_ 2 28 (bs_ 24 5) ?_; refine pu_ HT_ 3 29 (bs_ 24 13) ?_; refine pu_ HT_ 4 30 (bs_ 24 29) ?_; refine tk_ HT_ HW_ 1 27 (bs_ 24 31) hHeld ?_
          refine one_ (i := 5) (N := some 31) (bs_ 24 63) rfl rfl (one_of HT_.out (by kernel_rfl)) (by decide) (fun K hK => ?_)
          refine gs_ Try.func48 #[.int .i64 ((rd_T62 l1 x21_2).f0), .int .i64 0, .int .i64 (wrap64 ((x6_2.length : Int) - 1))] ?_
          with_reducible refine (impl_in.calls ((rd_T62 l1 x21_2).f0) 0 (wrap64 ((x6_2.length : Int) - 1)) false _ A14.out).mono ?_
          rintro e w' ⟨rfl, ⟨nd, rfl⟩⟩
          refine ⟨_, rfl, ?_⟩
          refine hK.out _ _ ⟨bc0_ BK242, bc1_ BK242⟩ (fun hHeld => ?_)
          clear hK K; refine nm_ ?_; refine pu_ HT_ 6 32 (bs_ 24 127) ?_; refine pu_ HT_ 7 33 (bs_ 24 255) ?_; refine pn_ HT_ 8 34 (bs_ 24 511) ?_; refine pn_ HT_ 9 35 (bs_ 24 1023) ?_; refine pn_ HT_ 10 36 (bs_ 24 2047) ?_; refine pn_ HT_ 11 37 (bs_ 24 4095) ?_; refine pu_ HT_ 12 38 (bs_ 24 8191) ?_; refine pu_ HT_ 13 39 (bs_ 24 16383) ?_; refine pn_ HT_ 14 40 (bs_ 24 32767) ?_; refine pn_ HT_ 15 41 (bs_ 24 65535) ?_; refine pn_ HT_ 16 42 (bs_ 24 131071) ?_; refine pn_ HT_ 17 43 (bs_ 24 262143) ?_; refine pn_ HT_ 18 44 (bs_ 24 524287) ?_; refine pn_ HT_ 19 45 (bs_ 24 1048575) ?_; refine pn_ HT_ 20 46 (bs_ 24 2097151) ?_; refine pn_ HT_ 21 47 (bs_ 24 4194303) ?_; refine pn_ HT_ 22 48 (bs_ 24 8388607) ?_; refine pu_ HT_ 23 49 (bs_ 24 16777215) ?_
          refine done_ (done_of HT_.out (by kernel_rfl)) ?_
          try go_wp2
          go_ret2
          exact ⟨_, re_, by (with_reducible repeat (first | apply Kd.R_alloc | apply Kd.R_drewN | apply Kd.R_drew)); exact HO_6.out, hw_ HB⟩
        ·rw [if_neg c13] at H
         exact absurd H (by simp)
       ·rw [if_neg c12] at H
        exact absurd H (by simp)
      ·rw [if_neg c11] at H; have c11b0 : decide (x21_2 < (l1.length : Int)) = false := decide_eq_false c11; clear c11
       simp only [Option.some.injEq, Prod.mk.injEq] at H
       obtain ⟨rfl, rfl⟩ := H; go_wp2
       go_ret2
       exact ⟨_, re_, by (with_reducible repeat (first | apply Kd.R_alloc | apply Kd.R_drewN | apply Kd.R_drew)); exact HO_6.out, hw_ HB⟩

end Go.Proofs.Yteedbciobdcmaaa.QFnExactLeaves
-- squeezed
