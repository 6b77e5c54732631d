/- Lean functions that tell what the Go functions used by one law answer, and for each a proof that the Go code comes to just these answers; no condition. Printed by this session's own program over the kit's printer. -/
import Derived.Test.YtfopdbdamkfglaaQFnExactSmoothx0
import Derived.Test.YtfopdbdamkfglaaQFnExactSmoothx1
namespace Go.Proofs.Ytfopdbdamkfglaa.QFnExactSmooth
open Go.RowKit Go.Proofs.YtfopdbdamkfglaaW.PrintWords Go.Proofs.YtfopdbdamkfglaaW.PrintLast Go.Proofs.YtfopdbdamkfglaaW.PrintMore
attribute [local go_sem] max2_int min2_int max_two min_two max_three min_three max_four min_four   -- for this text's walks alone
attribute [local go_sem high] go_eql go_neq go_lss go_leq go_gtr go_geq go_store   -- for this text's walks alone
set_option linter.unusedVariables false
set_option linter.unusedSimpArgs false

/-! ### slices_IndexFunc_float64_float64: function 76 -/
def slices_IndexFunc_float64_float64.l0 : Nat → List (Fl) → Int → Int → Option (Int)
  | 0, _, _, _ => none
  | k + 1, x0, x7, x8 => if x8 < x7 then (if 0 ≤ x8 then (if x8 < (x0.length : Int) then ((impl_Smooth_1.f (rdf .f64 x0 x8)).bind fun t137 => (if t137 = true then (some x8) else (slices_IndexFunc_float64_float64.l0 k x0 x7 (wrap64 (x8 + 1))))) else (none)) else (none)) else (some (-1))
def slices_IndexFunc_float64_float64.f (k : Nat) (l0 : List (Fl)) (a1 : Unit) : Option (Int) := slices_IndexFunc_float64_float64.l0 k l0 (l0.length : Int) 0
theorem slices_IndexFunc_float64_float64.mono_l : ∀ k, (∀ y0 y1 y2, LeO (slices_IndexFunc_float64_float64.l0 k y0 y1 y2) (slices_IndexFunc_float64_float64.l0 (k + 1) y0 y1 y2))
  | 0 => fun _ _ _ r h => by simp [slices_IndexFunc_float64_float64.l0] at h
  | k + 1 => by
    have ih0 := slices_IndexFunc_float64_float64.mono_l k
    · intro y0 y1 y2
      unfold slices_IndexFunc_float64_float64.l0
      repeat' first
      | (with_reducible exact ih0 _ _ _)
      | (with_reducible exact LeO.refl _)
      | (with_reducible exact LeO.none _)
      | (with_reducible refine LeO.ite ?_ ?_)
      | (with_reducible refine LeO.bind ?_ (fun _ => ?_))
      | exact ih0 _ _ _
      | exact LeO.none _
      | refine LeO.ite ?_ ?_
      | refine LeO.bind ?_ (fun _ => ?_)
theorem slices_IndexFunc_float64_float64.mono : ∀ a0 a1 k, LeO (slices_IndexFunc_float64_float64.f k a0 a1) (slices_IndexFunc_float64_float64.f (k + 1) a0 a1) := by
  intro a0 a1 k
  have ih0 := slices_IndexFunc_float64_float64.mono_l k
  unfold slices_IndexFunc_float64_float64.f
  repeat' first
      | (with_reducible exact ih0 _ _ _)
      | (with_reducible exact LeO.refl _)
      | (with_reducible exact LeO.none _)
      | (with_reducible refine LeO.ite ?_ ?_)
      | (with_reducible refine LeO.bind ?_ (fun _ => ?_))
      | exact ih0 _ _ _
      | exact LeO.none _
      | refine LeO.ite ?_ ?_
      | refine LeO.bind ?_ (fun _ => ?_)
set_option maxHeartbeats 8000000 in
set_option maxRecDepth 100000 in
theorem slices_IndexFunc_float64_float64.calls (k : Nat) (A0 : Option Addr) (c0 : Nat) (l0 : List (Fl)) (a1 : Unit) (r : Int) (w : World) (hr0 : Kd.C (Kd.fl .f64) w A0 l0.length l0) (hc0 : l0.length ≤ c0) (h : slices_IndexFunc_float64_float64.f k l0 a1 = some r) :
    Calls Try.prog 76 #[.slice A0 l0.length c0, .func (.func 77) #[] #[]] w fun e w' => e = .returned (.int .i64 r) ∧ Drawn0 w w' := by
  have HR0 := Aside0.mk hr0
  have HC0 := Aside0.mk hc0
  clear hr0 hc0
  have H : (slices_IndexFunc_float64_float64.l0 k l0 (l0.length : Int) 0) = some r := h
  clear h
  have H' := Aside0.mk H
  clear H
  go_enter Try.func76, Try.ntmps76
  go_wp2
  go_loopg [8] k (fun kq v8 w' => ∃ (x8_1 : Int), v8 = .int .i64 x8_1 ∧ Aside0 (slices_IndexFunc_float64_float64.l0 kq l0 (l0.length : Int) x8_1 = some r) ∧ Aside0 (kq ≤ k) ∧ Drawn0 w w')
  case atStart => exact ⟨(0), (by first | rfl | (simp; done) | (simp [*]; done)), H', ⟨Nat.le_refl _⟩, by repeat (first | exact Drawn0.refl _ | apply Drawn0.step)⟩
  case round =>
    clear H'
    try clear p2
    obtain ⟨x8_1, rfl, HA, HK1, ⟨m1, rfl⟩⟩ := hrel
    cases gk with
    | zero => exact absurd HA.out (by simp [slices_IndexFunc_float64_float64.l0])
    | succ k1 =>
      have H := HA.out
      clear HA
      simp only [slices_IndexFunc_float64_float64.l0] at H
      by_cases c3 : x8_1 < (l0.length : Int)
      · rw [if_pos c3] at H
        have c3b0 : decide (x8_1 < (l0.length : Int)) = true := decide_eq_true c3
        clear c3
        by_cases c4 : 0 ≤ x8_1
        · rw [if_pos c4] at H
          have c4b0 : decide (0 ≤ x8_1) = true := decide_eq_true c4
          clear c4
          by_cases c5 : x8_1 < (l0.length : Int)
          · rw [if_pos c5] at H
            have c5b0 : decide (x8_1 < (l0.length : Int)) = true := decide_eq_true c5
            clear c5
            obtain ⟨fr136_0, hfr136_0⟩ : ∃ y_ : Fl, y_ = (rdf .f64 l0 x8_1) := ⟨_, rfl⟩
            replace H : ((impl_Smooth_1.f fr136_0).bind fun t137 => (if t137 = true then (some x8_1) else (slices_IndexFunc_float64_float64.l0 k1 l0 (l0.length : Int) (wrap64 (x8_1 + 1))))) = some r := by first | (rw [hfr136_0]; with_reducible exact H) | (have H2_ := (Option.bind_some _ _).symm.trans H; rw [hfr136_0]; with_reducible exact H2_) | (have H2_ := (Option.bind_some _ _).symm.trans H; with_reducible exact H2_) | with_reducible exact H | (rw [hfr136_0]; exact H) | exact H
            have Nfr136_0 := Aside0.mk hfr136_0
            clear hfr136_0
            replace H := Option.bind_eq_some_iff.mp H
            obtain ⟨t137, A60, H⟩ := H
            replace H : (if t137 = true then (some x8_1) else (slices_IndexFunc_float64_float64.l0 k1 l0 (l0.length : Int) (wrap64 (x8_1 + 1)))) = some r := H
            have A6 := Aside0.mk A60
            clear A60
            by_cases c7 : t137 = true
            · subst c7
              have H1 : (some x8_1) = some r := by rw [if_pos rfl] at H; exact H
              clear H
              have H := H1
              clear H1
              obtain rfl := Option.some.inj H
              have p136 : 0 ≤ (x8_1 : Int) := of_decide_eq_true (by first | (with_reducible assumption) | assumption)
              have q136 : x8_1 < (l0.length : Int) := of_decide_eq_true (by first | (with_reducible assumption) | assumption)
              obtain ⟨ad136, b_fr136_0, e136, hx136_0, hF136_0⟩ := Kd.at_fl HR0.out x8_1 p136 q136
              have hF_fr136_0 := hF136_0.trans Nfr136_0.out.symm
              clear hF136_0
              cases e136
              replace p136 := eq_true p136
              replace q136 := eq_true q136
              go_wp2_with (first | (go_at_call 77; (with_reducible refine (impl_Smooth_1.calls b_fr136_0 fr136_0 true _ ?side1 A6.out).mono ?_); (case side1 => exact hF_fr136_0); rintro e w' ⟨rfl, ⟨nd, rfl⟩⟩))
              go_ret
              exact ⟨by first | rfl | (simp; done) | (simp [*]; done), by repeat (first | exact Drawn0.refl _ | apply Drawn0.step)⟩
            · replace c7 := Bool.eq_false_iff.mpr c7
              subst c7
              have H1 : (slices_IndexFunc_float64_float64.l0 k1 l0 (l0.length : Int) (wrap64 (x8_1 + 1))) = some r := by rw [if_neg (show ¬ (false = true) by decide)] at H; exact H
              clear H
              have H := H1
              clear H1
              have H' := Aside0.mk H
              clear H
              have p136 : 0 ≤ (x8_1 : Int) := of_decide_eq_true (by first | (with_reducible assumption) | assumption)
              have q136 : x8_1 < (l0.length : Int) := of_decide_eq_true (by first | (with_reducible assumption) | assumption)
              obtain ⟨ad136, b_fr136_0, e136, hx136_0, hF136_0⟩ := Kd.at_fl HR0.out x8_1 p136 q136
              have hF_fr136_0 := hF136_0.trans Nfr136_0.out.symm
              clear hF136_0
              cases e136
              replace p136 := eq_true p136
              replace q136 := eq_true q136
              go_wp2_with (first | (go_at_call 77; (with_reducible refine (impl_Smooth_1.calls b_fr136_0 fr136_0 false _ ?side1 A6.out).mono ?_); (case side1 => exact hF_fr136_0); rintro e w' ⟨rfl, ⟨nd, rfl⟩⟩))
              go_roundg k1
              case measure => have := HK1.out; omega
              case rel => exact ⟨(wrap64 (x8_1 + 1)), (by first | rfl | (simp; done) | (simp [*]; done)), H', ⟨by have := HK1.out; omega⟩, by repeat (first | exact Drawn0.refl _ | apply Drawn0.step)⟩
          · rw [if_neg c5] at H
            exact absurd H (by simp)
        · rw [if_neg c4] at H
          exact absurd H (by simp)
      · rw [if_neg c3] at H
        have c3b0 : decide (x8_1 < (l0.length : Int)) = false := decide_eq_false c3
        clear c3
        obtain rfl := Option.some.inj H
        go_wp2
        go_ret
        exact ⟨by first | rfl | (simp; done) | (simp [*]; done), by repeat (first | exact Drawn0.refl _ | apply Drawn0.step)⟩

/-! ### impl_Smooth: function 34 -/
mutual
def impl_Smooth.j0 : Nat → List (Fl) → Fl → Fl → List (Fl) → Option ((List (Fl)) × Bool)
  | 0, _, _, _, _ => none
  | k + 1, x0, x1, x6, x7 => impl_Smooth.l0 k x1 x6 x7 false x0 (x0.length : Int) 0
def impl_Smooth.l0 : Nat → Fl → Fl → List (Fl) → Bool → List (Fl) → Int → Int → Option ((List (Fl)) × Bool)
  | 0, _, _, _, _, _, _, _ => none
  | k + 1, x1, x6, x7, x9, x25, x26, x27 => if x27 < x26 then (if 0 ≤ x27 then (if x27 < (x25.length : Int) then ((some (rdf .f64 x25 x27 : Fl)).bind fun fr144_0 => ((math_IsNaN.f fr144_0).bind fun t145 => (if t145 = true then (impl_Smooth.j2 k x1 x6 x7 x9 x25 x26 x27) else (impl_Smooth.j2 k x1 (fop .add .f64 x6 (fop .mul .f64 (fop .sub .f64 fr144_0 x6) x1)) x7 true x25 x26 x27)))) else (none)) else (none)) else (some (x7, true))
def impl_Smooth.j2 : Nat → Fl → Fl → List (Fl) → Bool → List (Fl) → Int → Int → Option ((List (Fl)) × Bool)
  | 0, _, _, _, _, _, _, _ => none
  | k + 1, x1, x6, x7, x9, x25, x26, x27 => if x9 = true then (if x7.length < 17592186044416 then (impl_Smooth.l0 k x1 x6 (x7 ++ [x6]) x9 x25 x26 (wrap64 (x27 + 1))) else (none)) else ((math_NaN.f).bind fun t152 => (if x7.length < 17592186044416 then (impl_Smooth.l0 k x1 x6 (x7 ++ [t152]) x9 x25 x26 (wrap64 (x27 + 1))) else (none)))
end
def impl_Smooth.f (k : Nat) (l0 : List (Fl)) (a1 : Fl) : Option ((List (Fl)) × Bool) := if (l0.length : Int) > 60 then (some (([] : List (Fl)), false)) else ((math_NaN.f).bind fun t138 => ((some (([] : List (Fl)) : List (Fl))).bind fun y139 => ((slices_IndexFunc_float64_float64.f k l0 ()).bind fun t142 => (if t142 ≥ 0 then (if 0 ≤ t142 then (if t142 < (l0.length : Int) then (impl_Smooth.j0 k l0 a1 (rdf .f64 l0 t142) y139) else (none)) else (none)) else (impl_Smooth.j0 k l0 a1 t138 y139)))))
theorem impl_Smooth.mono_l : ∀ k, (∀ y0 y1 y2 y3, LeO (impl_Smooth.j0 k y0 y1 y2 y3) (impl_Smooth.j0 (k + 1) y0 y1 y2 y3)) ∧ (∀ y0 y1 y2 y3 y4 y5 y6, LeO (impl_Smooth.l0 k y0 y1 y2 y3 y4 y5 y6) (impl_Smooth.l0 (k + 1) y0 y1 y2 y3 y4 y5 y6)) ∧ (∀ y0 y1 y2 y3 y4 y5 y6, LeO (impl_Smooth.j2 k y0 y1 y2 y3 y4 y5 y6) (impl_Smooth.j2 (k + 1) y0 y1 y2 y3 y4 y5 y6))
  | 0 => ⟨fun _ _ _ _ r h => by simp [impl_Smooth.j0] at h, fun _ _ _ _ _ _ _ r h => by simp [impl_Smooth.l0] at h, fun _ _ _ _ _ _ _ r h => by simp [impl_Smooth.j2] at h⟩
  | k + 1 => by
    obtain ⟨ih0, ih1, ih2⟩ := impl_Smooth.mono_l k
    refine ⟨?_, ?_, ?_⟩
    · intro y0 y1 y2 y3
      unfold impl_Smooth.j0
      repeat' first
      | (with_reducible exact ih0 _ _ _ _)
      | (with_reducible exact ih1 _ _ _ _ _ _ _)
      | (with_reducible exact ih2 _ _ _ _ _ _ _)
      | (with_reducible exact slices_IndexFunc_float64_float64.mono _ _ _)
      | (with_reducible exact LeO.refl _)
      | (with_reducible exact LeO.none _)
      | (with_reducible refine LeO.ite ?_ ?_)
      | (with_reducible refine LeO.bind ?_ (fun _ => ?_))
      | exact ih0 _ _ _ _
      | exact ih1 _ _ _ _ _ _ _
      | exact ih2 _ _ _ _ _ _ _
      | exact slices_IndexFunc_float64_float64.mono _ _ _
      | exact LeO.none _
      | refine LeO.ite ?_ ?_
      | refine LeO.bind ?_ (fun _ => ?_)
    · intro y0 y1 y2 y3 y4 y5 y6
      unfold impl_Smooth.l0
      repeat' first
      | (with_reducible exact ih0 _ _ _ _)
      | (with_reducible exact ih1 _ _ _ _ _ _ _)
      | (with_reducible exact ih2 _ _ _ _ _ _ _)
      | (with_reducible exact slices_IndexFunc_float64_float64.mono _ _ _)
      | (with_reducible exact LeO.refl _)
      | (with_reducible exact LeO.none _)
      | (with_reducible refine LeO.ite ?_ ?_)
      | (with_reducible refine LeO.bind ?_ (fun _ => ?_))
      | exact ih0 _ _ _ _
      | exact ih1 _ _ _ _ _ _ _
      | exact ih2 _ _ _ _ _ _ _
      | exact slices_IndexFunc_float64_float64.mono _ _ _
      | exact LeO.none _
      | refine LeO.ite ?_ ?_
      | refine LeO.bind ?_ (fun _ => ?_)
    · intro y0 y1 y2 y3 y4 y5 y6
      unfold impl_Smooth.j2
      repeat' first
      | (with_reducible exact ih0 _ _ _ _)
      | (with_reducible exact ih1 _ _ _ _ _ _ _)
      | (with_reducible exact ih2 _ _ _ _ _ _ _)
      | (with_reducible exact slices_IndexFunc_float64_float64.mono _ _ _)
      | (with_reducible exact LeO.refl _)
      | (with_reducible exact LeO.none _)
      | (with_reducible refine LeO.ite ?_ ?_)
      | (with_reducible refine LeO.bind ?_ (fun _ => ?_))
      | exact ih0 _ _ _ _
      | exact ih1 _ _ _ _ _ _ _
      | exact ih2 _ _ _ _ _ _ _
      | exact slices_IndexFunc_float64_float64.mono _ _ _
      | exact LeO.none _
      | refine LeO.ite ?_ ?_
      | refine LeO.bind ?_ (fun _ => ?_)
theorem impl_Smooth.mono : ∀ a0 a1 k, LeO (impl_Smooth.f k a0 a1) (impl_Smooth.f (k + 1) a0 a1) := by
  intro a0 a1 k
  obtain ⟨ih0, ih1, ih2⟩ := impl_Smooth.mono_l k
  unfold impl_Smooth.f
  repeat' first
      | (with_reducible exact ih0 _ _ _ _)
      | (with_reducible exact ih1 _ _ _ _ _ _ _)
      | (with_reducible exact ih2 _ _ _ _ _ _ _)
      | (with_reducible exact slices_IndexFunc_float64_float64.mono _ _ _)
      | (with_reducible exact LeO.refl _)
      | (with_reducible exact LeO.none _)
      | (with_reducible refine LeO.ite ?_ ?_)
      | (with_reducible refine LeO.bind ?_ (fun _ => ?_))
      | exact ih0 _ _ _ _
      | exact ih1 _ _ _ _ _ _ _
      | exact ih2 _ _ _ _ _ _ _
      | exact slices_IndexFunc_float64_float64.mono _ _ _
      | exact LeO.none _
      | refine LeO.ite ?_ ?_
      | refine LeO.bind ?_ (fun _ => ?_)
set_option maxHeartbeats 8000000 in
set_option maxRecDepth 100000 in
theorem impl_Smooth.calls (k : Nat) (A0 : Option Addr) (c0 : Nat) (l0 : List (Fl)) (b_a1 : Nat) (a1 : Fl) (r1 : List (Fl)) (r2 : Bool) (w : World) (hr0 : Kd.C (Kd.fl .f64) w A0 l0.length l0) (hc0 : l0.length ≤ c0) (hF_a1 : cn .f64 b_a1 = a1) (h : impl_Smooth.f k l0 a1 = some (r1, r2)) :
    Calls Try.prog 34 #[.slice A0 l0.length c0, .float .f64 b_a1] w fun e w' => ∃ v0_ : Value, e = .returned (.tuple #[v0_, .bool r2]) ∧ Kd.R (Kd.fl .f64) 23 w' w.heap.size (fun _ => True) v0_ r1 ∧ Below w.heap.size w w' := by
  have HR0 := Aside0.mk hr0
  have HC0 := Aside0.mk hc0
  clear hr0 hc0
  have HB := Aside0.mk (Below.refl w.heap.size w)
  have H : (if (l0.length : Int) > 60 then (some (([] : List (Fl)), false)) else ((math_NaN.f).bind fun t138 => ((some (([] : List (Fl)) : List (Fl))).bind fun y139 => ((slices_IndexFunc_float64_float64.f k l0 ()).bind fun t142 => (if t142 ≥ 0 then (if 0 ≤ t142 then (if t142 < (l0.length : Int) then (impl_Smooth.j0 k l0 a1 (rdf .f64 l0 t142) y139) else (none)) else (none)) else (impl_Smooth.j0 k l0 a1 t138 y139)))))) = some (r1, r2) := h
  clear h
  by_cases c3 : (l0.length : Int) > 60
  · rw [if_pos c3] at H
    have c3b0 : decide (60 < (l0.length : Int)) = true := decide_eq_true c3
    have c3b1 : decide (60 < l0.length) = true := decide_eq_true (by omega)
    clear c3
    simp only [Option.some.injEq, Prod.mk.injEq] at H
    obtain ⟨rfl, rfl⟩ := H
    go_enter Try.func34, Try.ntmps34
    go_wp2
    go_ret2
    exact ⟨_, by first | rfl | (simp [errW_none, errW_some] <;> rfl) | (simp [*, errW_none, errW_some] <;> rfl), by first | exact Kd.R_nil _ _ _ _ _ | exact Kd.N_nil _ _ _ _ _ | exact Kd.V_nil _ _ _ _ _ | exact Kd.Q_nil _ _ _ _ _ | exact Kd.S_nil _ _ _ _ _, by repeat (first | (with_reducible first | exact HB.out | apply below_alloc | apply pw_below_drewN | apply below_drew1) | exact HB.out)⟩
  · rw [if_neg c3] at H
    have c3b0 : decide (60 < (l0.length : Int)) = false := decide_eq_false c3
    have c3b1 : decide (60 < l0.length) = false := decide_eq_false (by omega)
    clear c3
    replace H := Option.bind_eq_some_iff.mp H
    obtain ⟨t138, A40, H⟩ := H
    replace H : ((some (([] : List (Fl)) : List (Fl))).bind fun y139 => ((slices_IndexFunc_float64_float64.f k l0 ()).bind fun t142 => (if t142 ≥ 0 then (if 0 ≤ t142 then (if t142 < (l0.length : Int) then (impl_Smooth.j0 k l0 a1 (rdf .f64 l0 t142) y139) else (none)) else (none)) else (impl_Smooth.j0 k l0 a1 t138 y139)))) = some (r1, r2) := H
    have A4 := Aside0.mk A40
    clear A40
    obtain ⟨y139, hy139⟩ : ∃ y_ : List (Fl), y_ = (([] : List (Fl))) := ⟨_, rfl⟩
    replace H : ((slices_IndexFunc_float64_float64.f k l0 ()).bind fun t142 => (if t142 ≥ 0 then (if 0 ≤ t142 then (if t142 < (l0.length : Int) then (impl_Smooth.j0 k l0 a1 (rdf .f64 l0 t142) y139) else (none)) else (none)) else (impl_Smooth.j0 k l0 a1 t138 y139))) = some (r1, r2) := by first | (rw [hy139]; with_reducible exact H) | (have H2_ := (Option.bind_some _ _).symm.trans H; rw [hy139]; with_reducible exact H2_) | (have H2_ := (Option.bind_some _ _).symm.trans H; with_reducible exact H2_) | with_reducible exact H | (rw [hy139]; exact H) | exact H
    have Ny139 := Aside0.mk hy139
    clear hy139
    replace H := Option.bind_eq_some_iff.mp H
    obtain ⟨t142, A50, H⟩ := H
    replace H : (if t142 ≥ 0 then (if 0 ≤ t142 then (if t142 < (l0.length : Int) then (impl_Smooth.j0 k l0 a1 (rdf .f64 l0 t142) y139) else (none)) else (none)) else (impl_Smooth.j0 k l0 a1 t138 y139)) = some (r1, r2) := H
    have A5 := Aside0.mk A50
    clear A50
    have HC6 := Aside0.mk H
    clear H
    go_enter Try.func34, Try.ntmps34
    go_upto_if 20 with (first | ((with_reducible refine gate_callee (f := 75) rfl ?_); refine goesL_ (some 15) rfl rfl Try.func75 (by kernel_rfl) rfl #[] rfl (by (try simp only [List.map_toArray, List.map_cons, List.map_nil]); first | done | rfl | (simp only [List.length_drop, List.length_take]; rfl)) ?_; (with_reducible refine (math_NaN.calls  t138 _ A4.out).mono ?_); rintro e w' ⟨b_t138, rfl, hF_t138, ⟨nd, rfl⟩⟩; refine ⟨_, rfl, ?_⟩) | ((with_reducible refine gate_dst (N := 16) rfl ?_); refine Kd.R_lit (Kd.fl .f64) _ 23 ?hg (N := 16) ?hd (xs := ([] : List (Fl))) (inner := []) (ok := fun _ => True) (okp := fun _ => True) ?hr ?hp (fun _ hk => hk) trivial (Below.refl _ _) (Nat.le_refl _) (by simp) ?_; (case hd => rfl); (case hg => rfl); (case hr => first | (go_simp; done) | (go_simp; rfl)); (case hp => exact (Reps.none _ _)); intro v140 w7 ho8 hb hg_ hnew_; clear hg_ hnew_; (first | rw [← Ny139.out] at ho8 | (simp only [Int.reduceToNat] at ho8; rw [← Ny139.out] at ho8)); have n0_ := Aside0.mk (Kd.R_lower ho8 (below_size (by repeat (first | (with_reducible first | exact HB.out | apply below_alloc | apply pw_below_drewN | apply below_drew1) | exact HB.out)))); have n1_ := Aside0.mk (below_step (by repeat (first | (with_reducible first | exact HB.out | apply below_alloc | apply pw_below_drewN | apply below_drew1) | exact HB.out)) hb); clear HB; have HO141 := n0_; have HB := n1_; clear n0_ n1_; clear hb ho8) | ((with_reducible refine gate_callee (f := 76) rfl ?_); refine goesL_ (some 18) rfl rfl Try.func76 (by kernel_rfl) rfl #[.slice A0 l0.length c0, .func (.func 77) #[] #[]] rfl (by (try simp only [List.map_toArray, List.map_cons, List.map_nil]); first | done | rfl | (simp only [List.length_drop, List.length_take]; rfl)) ?_; (with_reducible refine (slices_IndexFunc_float64_float64.calls k _ _ l0 () t142 _ ?side1 ?side2 A5.out).mono ?_); (case side1 => repeat (first | exact (Kd.C_below HR0.out HB.out) | (with_reducible refine Kd.C_alloc ?_ _) | (with_reducible refine Kd.C_drewN ?_ _) | (with_reducible refine Kd.C_drew ?_))); (case side2 => exact HC0.out); rintro e w' ⟨rfl, ⟨nd, rfl⟩⟩; refine ⟨_, rfl, ?_⟩))
    (try simp only [Act.put, List.setIfInBounds_toArray, List.set_cons_zero, List.set_cons_succ])
    go_cut [6] (fun v6 wc => ∃ (kq : Nat) (x6_5 : Fl) (b_x6_5 : Nat), v6 = .float .f64 b_x6_5 ∧ Aside0 (impl_Smooth.j0 kq l0 a1 x6_5 y139 = some (r1, r2)) ∧ Aside0 (kq ≤ k) ∧ Aside0 (cn .f64 b_x6_5 = x6_5) ∧ Aside0 (Kd.R (Kd.fl .f64) 23 wc w.heap.size (fun _ => True) v140 y139) ∧ Aside0 (Below w.heap.size w wc))
    case first =>
      have H := HC6.out
      clear HC6
      by_cases c9 : t142 ≥ 0
      · rw [if_pos c9] at H
        have c9b0 : decide (0 ≤ t142) = true := decide_eq_true c9
        clear c9
        (first | rw [c9b0] | (simp only [i64_w, i32_w]; rw [c9b0]) | skip)
        by_cases c10 : 0 ≤ t142
        · rw [if_pos c10] at H
          have c10b0 : decide (0 ≤ t142) = true := decide_eq_true c10
          clear c10
          by_cases c11 : t142 < (l0.length : Int)
          · rw [if_pos c11] at H
            have c11b0 : decide (t142 < (l0.length : Int)) = true := decide_eq_true c11
            clear c11
            obtain ⟨fr143_0, hfr143_0⟩ : ∃ y_ : Fl, y_ = (rdf .f64 l0 t142) := ⟨_, rfl⟩
            replace H : (impl_Smooth.j0 k l0 a1 fr143_0 y139) = some (r1, r2) := by first | (rw [hfr143_0]; with_reducible exact H) | (have H2_ := (Option.bind_some _ _).symm.trans H; rw [hfr143_0]; with_reducible exact H2_) | (have H2_ := (Option.bind_some _ _).symm.trans H; with_reducible exact H2_) | with_reducible exact H | (rw [hfr143_0]; exact H) | exact H
            have Nfr143_0 := Aside0.mk hfr143_0
            clear hfr143_0
            have H' := Aside0.mk H
            clear H
            have p143 : 0 ≤ (t142 : Int) := of_decide_eq_true (by first | (with_reducible assumption) | assumption)
            have q143 : t142 < (l0.length : Int) := of_decide_eq_true (by first | (with_reducible assumption) | assumption)
            obtain ⟨ad143, b_fr143_0, e143, hx143_0, hF143_0⟩ := Kd.at_fl HR0.out t142 p143 q143
            have hF_fr143_0 := hF143_0.trans Nfr143_0.out.symm
            clear hF143_0
            cases e143
            replace hx143_0 := (HB.out.cell (World.block_lt_of_cell? w _ hx143_0)).trans hx143_0
            replace p143 := eq_true p143
            replace q143 := eq_true q143
            go_wp2
            go_meet
            case rel => exact ⟨_, (fr143_0), b_fr143_0, (by first | rfl | (simp; done) | (simp [*]; done)), H', ⟨by first | omega | exact Nat.le_refl _⟩, ⟨hF_fr143_0⟩, ⟨by (with_reducible repeat (first | apply Kd.R_alloc | apply Kd.R_drewN | apply Kd.R_drew)); exact HO141.out⟩, ⟨by repeat (first | (with_reducible first | exact HB.out | apply below_alloc | apply pw_below_drewN | apply below_drew1) | exact HB.out)⟩⟩
          · rw [if_neg c11] at H
            exact absurd H (by simp)
        · rw [if_neg c10] at H
          exact absurd H (by simp)
      · rw [if_neg c9] at H
        have c9b0 : decide (0 ≤ t142) = false := decide_eq_false c9
        clear c9
        (first | rw [c9b0] | (simp only [i64_w, i32_w]; rw [c9b0]) | skip)
        have H' := Aside0.mk H
        clear H
        go_wp2
        go_meet
        case rel => exact ⟨_, (t138), b_t138, (by first | rfl | (simp; done) | (simp [*]; done)), H', ⟨by first | omega | exact Nat.le_refl _⟩, ⟨hF_t138⟩, ⟨by (with_reducible repeat (first | apply Kd.R_alloc | apply Kd.R_drewN | apply Kd.R_drew)); exact HO141.out⟩, ⟨by repeat (first | (with_reducible first | exact HB.out | apply below_alloc | apply pw_below_drewN | apply below_drew1) | exact HB.out)⟩⟩
    case rest =>
      clear HC6
      try clear c1
      try clear p1
      try clear q1
      try clear hx1
      try clear p2
      try clear c3
      try clear c3b0
      try clear c3b1
      try clear c7
      try clear c9
      try clear c9b0
      try clear c10
      try clear c10b0
      try clear c11
      try clear c11b0
      try clear hx143_0
      try clear p143
      try clear q143
      obtain ⟨kq, x6_5, b_x6_5, rfl, HA, HJ5, ⟨hF_x6_5⟩, HO_7, HB⟩ := hcut
      cases kq with
      | zero => exact absurd HA.out (by simp [impl_Smooth.j0])
      | succ kj5 =>
        have H := HA.out
        clear HA
        simp only [impl_Smooth.j0] at H
        have H' := Aside0.mk H
        clear H
        go_wp2
        go_loopg [6, 7, 9, 27] kj5 (fun kq v6 v7 v9 v27 w' => ∃ (x6_2 : Fl) (x7_2 : List (Fl)) (x9_2 : Bool) (x27_2 : Int) (b_x6_2 : Nat), v6 = .float .f64 b_x6_2 ∧ v9 = .bool x9_2 ∧ v27 = .int .i64 x27_2 ∧ Aside0 (impl_Smooth.l0 kq a1 x6_2 x7_2 x9_2 l0 (l0.length : Int) x27_2 = some (r1, r2)) ∧ Aside0 (kq ≤ kj5) ∧ Aside0 (cn .f64 b_x6_2 = x6_2) ∧ Aside0 (Kd.R (Kd.fl .f64) 23 w' w.heap.size (fun _ => True) v7 x7_2) ∧ Aside0 (Below w.heap.size w w'))
        case atStart => exact ⟨(x6_5), (y139), (false), (0), b_x6_5, (by first | rfl | (simp; done) | (simp [*]; done)), (by first | rfl | (simp; done) | (simp [*]; done)), (by first | rfl | (simp; done) | (simp [*]; done)), H', ⟨Nat.le_refl _⟩, ⟨hF_x6_5⟩, ⟨by (with_reducible repeat (first | apply Kd.R_alloc | apply Kd.R_drewN | apply Kd.R_drew)); exact HO_7.out⟩, ⟨by repeat (first | (with_reducible first | exact HB.out | apply below_alloc | apply pw_below_drewN | apply below_drew1) | exact HB.out)⟩⟩
        case round =>
          clear H'
          try clear c1
          try clear p1
          try clear q1
          try clear hx1
          try clear p2
          try clear c3
          try clear c3b0
          try clear c3b1
          try clear c7
          try clear c9
          try clear c9b0
          try clear c10
          try clear c10b0
          try clear c11
          try clear c11b0
          try clear hx143_0
          try clear p1
          try clear p143
          try clear p2
          try clear q1
          try clear q143
          obtain ⟨x6_2, x7_2, x9_2, x27_2, b_x6_2, rfl, rfl, rfl, HA, HK2, ⟨hF_x6_2⟩, HO_7, HB⟩ := hrel
          cases gk with
          | zero => exact absurd HA.out (by simp [impl_Smooth.l0])
          | succ k2 =>
            have H := HA.out
            clear HA
            simp only [impl_Smooth.l0] at H
            by_cases c12 : x27_2 < (l0.length : Int)
            · rw [if_pos c12] at H
              have c12b0 : decide (x27_2 < (l0.length : Int)) = true := decide_eq_true c12
              clear c12
              by_cases c13 : 0 ≤ x27_2
              · rw [if_pos c13] at H
                have c13b0 : decide (0 ≤ x27_2) = true := decide_eq_true c13
                clear c13
                by_cases c14 : x27_2 < (l0.length : Int)
                · rw [if_pos c14] at H
                  have c14b0 : decide (x27_2 < (l0.length : Int)) = true := decide_eq_true c14
                  clear c14
                  obtain ⟨fr144_0, hfr144_0⟩ : ∃ y_ : Fl, y_ = (rdf .f64 l0 x27_2) := ⟨_, rfl⟩
                  replace H : ((math_IsNaN.f fr144_0).bind fun t145 => (if t145 = true then (impl_Smooth.j2 k2 a1 x6_2 x7_2 x9_2 l0 (l0.length : Int) x27_2) else (impl_Smooth.j2 k2 a1 (fop .add .f64 x6_2 (fop .mul .f64 (fop .sub .f64 fr144_0 x6_2) a1)) x7_2 true l0 (l0.length : Int) x27_2))) = some (r1, r2) := by first | (rw [hfr144_0]; with_reducible exact H) | (have H2_ := (Option.bind_some _ _).symm.trans H; rw [hfr144_0]; with_reducible exact H2_) | (have H2_ := (Option.bind_some _ _).symm.trans H; with_reducible exact H2_) | with_reducible exact H | (rw [hfr144_0]; exact H) | exact H
                  have Nfr144_0 := Aside0.mk hfr144_0
                  clear hfr144_0
                  replace H := Option.bind_eq_some_iff.mp H
                  obtain ⟨t145, A150, H⟩ := H
                  replace H : (if t145 = true then (impl_Smooth.j2 k2 a1 x6_2 x7_2 x9_2 l0 (l0.length : Int) x27_2) else (impl_Smooth.j2 k2 a1 (fop .add .f64 x6_2 (fop .mul .f64 (fop .sub .f64 fr144_0 x6_2) a1)) x7_2 true l0 (l0.length : Int) x27_2)) = some (r1, r2) := H
                  have A15 := Aside0.mk A150
                  clear A150
                  have HC16 := Aside0.mk H
                  clear H
                  have p144 : 0 ≤ (x27_2 : Int) := of_decide_eq_true (by first | (with_reducible assumption) | assumption)
                  have q144 : x27_2 < (l0.length : Int) := of_decide_eq_true (by first | (with_reducible assumption) | assumption)
                  obtain ⟨ad144, b_fr144_0, e144, hx144_0, hF144_0⟩ := Kd.at_fl HR0.out x27_2 p144 q144
                  have hF_fr144_0 := hF144_0.trans Nfr144_0.out.symm
                  clear hF144_0
                  cases e144
                  replace hx144_0 := (HB.out.cell (World.block_lt_of_cell? w _ hx144_0)).trans hx144_0
                  replace p144 := eq_true p144
                  replace q144 := eq_true q144
                  go_upto_if 33 with (first | ((with_reducible refine gate_callee (f := 67) rfl ?_); refine goesL_ (some 32) rfl rfl Try.func67 (by kernel_rfl) rfl #[.float .f64 b_fr144_0] rfl (by (try simp only [List.map_toArray, List.map_cons, List.map_nil]); first | done | rfl | (simp only [List.length_drop, List.length_take]; rfl)) ?_; (with_reducible refine (math_IsNaN.calls b_fr144_0 fr144_0 t145 _ ?side1 A15.out).mono ?_); (case side1 => exact hF_fr144_0); rintro e w' ⟨rfl, ⟨nd, rfl⟩⟩; refine ⟨_, rfl, ?_⟩))
                  (try simp only [Act.put, List.setIfInBounds_toArray, List.set_cons_zero, List.set_cons_succ])
                  go_cut [6, 9] (fun v6 v9 wc => ∃ (kq : Nat) (x6_15 : Fl) (x9_15 : Bool) (b_x6_15 : Nat), v6 = .float .f64 b_x6_15 ∧ v9 = .bool x9_15 ∧ Aside0 (impl_Smooth.j2 kq a1 x6_15 x7_2 x9_15 l0 (l0.length : Int) x27_2 = some (r1, r2)) ∧ Aside0 (kq ≤ k2) ∧ Aside0 (cn .f64 b_x6_15 = x6_15) ∧ Aside0 (Kd.R (Kd.fl .f64) 23 wc w.heap.size (fun _ => True) u7 x7_2) ∧ Aside0 (Below w.heap.size w wc))
                  case first =>
                    have H := HC16.out
                    clear HC16
                    by_cases c17 : t145 = true
                    · subst c17
                      have H1 : (impl_Smooth.j2 k2 a1 x6_2 x7_2 x9_2 l0 (l0.length : Int) x27_2) = some (r1, r2) := by rw [if_pos rfl] at H; exact H
                      clear H
                      have H := H1
                      clear H1
                      have H' := Aside0.mk H
                      clear H
                      go_wp2
                      go_meet
                      case rel => exact ⟨_, (x6_2), (x9_2), b_x6_2, (by first | rfl | (simp; done) | (simp [*]; done)), (by first | rfl | (simp; done) | (simp [*]; done)), H', ⟨by have := HJ5.out; have := HK2.out; first | omega | exact Nat.le_refl _⟩, ⟨hF_x6_2⟩, ⟨by (with_reducible repeat (first | apply Kd.R_alloc | apply Kd.R_drewN | apply Kd.R_drew)); exact HO_7.out⟩, ⟨by repeat (first | (with_reducible first | exact HB.out | apply below_alloc | apply pw_below_drewN | apply below_drew1) | exact HB.out)⟩⟩
                    · replace c17 := Bool.eq_false_iff.mpr c17
                      subst c17
                      have H1 : (impl_Smooth.j2 k2 a1 (fop .add .f64 x6_2 (fop .mul .f64 (fop .sub .f64 fr144_0 x6_2) a1)) x7_2 true l0 (l0.length : Int) x27_2) = some (r1, r2) := by rw [if_neg (show ¬ (false = true) by decide)] at H; exact H
                      clear H
                      have H := H1
                      clear H1
                      obtain ⟨ft146, hft146⟩ : ∃ y_ : Fl, y_ = (fop .sub .f64 fr144_0 x6_2) := ⟨_, rfl⟩
                      replace H : (impl_Smooth.j2 k2 a1 (fop .add .f64 x6_2 (fop .mul .f64 ft146 a1)) x7_2 true l0 (l0.length : Int) x27_2) = some (r1, r2) := by first | (rw [hft146]; with_reducible exact H) | (have H2_ := (Option.bind_some _ _).symm.trans H; rw [hft146]; with_reducible exact H2_) | (have H2_ := (Option.bind_some _ _).symm.trans H; with_reducible exact H2_) | with_reducible exact H | (rw [hft146]; exact H) | exact H
                      have Nft146 := Aside0.mk hft146
                      clear hft146
                      obtain ⟨ft147, hft147⟩ : ∃ y_ : Fl, y_ = (fop .mul .f64 ft146 a1) := ⟨_, rfl⟩
                      replace H : (impl_Smooth.j2 k2 a1 (fop .add .f64 x6_2 ft147) x7_2 true l0 (l0.length : Int) x27_2) = some (r1, r2) := by first | (rw [hft147]; with_reducible exact H) | (have H2_ := (Option.bind_some _ _).symm.trans H; rw [hft147]; with_reducible exact H2_) | (have H2_ := (Option.bind_some _ _).symm.trans H; with_reducible exact H2_) | with_reducible exact H | (rw [hft147]; exact H) | exact H
                      have Nft147 := Aside0.mk hft147
                      clear hft147
                      obtain ⟨ft148, hft148⟩ : ∃ y_ : Fl, y_ = (fop .add .f64 x6_2 ft147) := ⟨_, rfl⟩
                      replace H : (impl_Smooth.j2 k2 a1 ft148 x7_2 true l0 (l0.length : Int) x27_2) = some (r1, r2) := by first | (rw [hft148]; with_reducible exact H) | (have H2_ := (Option.bind_some _ _).symm.trans H; rw [hft148]; with_reducible exact H2_) | (have H2_ := (Option.bind_some _ _).symm.trans H; with_reducible exact H2_) | with_reducible exact H | (rw [hft148]; exact H) | exact H
                      have Nft148 := Aside0.mk hft148
                      clear hft148
                      have H' := Aside0.mk H
                      clear H
                      go_wp2_with (first | ((with_reducible refine gate_dst (N := 37) rfl ?_); refine fop_event rfl (N := 37) rfl (op := .sub) (by simp) rfl .f64 b_fr144_0 b_x6_2 fr144_0 x6_2 rfl rfl hF_fr144_0 hF_x6_2 ?_; intro b_ft146 nf_ hF_; replace hF_ := hF_.trans Nft146.out.symm; have hF_ft146 := hF_; clear hF_) | ((with_reducible refine gate_dst (N := 39) rfl ?_); refine fop_event rfl (N := 39) rfl (op := .mul) (by simp) rfl .f64 b_ft146 b_a1 ft146 a1 rfl rfl hF_ft146 hF_a1 ?_; intro b_ft147 nf_ hF_; replace hF_ := hF_.trans Nft147.out.symm; have hF_ft147 := hF_; clear hF_) | ((with_reducible refine gate_dst (N := 40) rfl ?_); refine fop_event rfl (N := 40) rfl (op := .add) (by simp) rfl .f64 b_x6_2 b_ft147 x6_2 ft147 rfl rfl hF_x6_2 hF_ft147 ?_; intro b_ft148 nf_ hF_; replace hF_ := hF_.trans Nft148.out.symm; have hF_ft148 := hF_; clear hF_))
                      go_meet
                      case rel => exact ⟨_, (ft148), (true), b_ft148, (by first | rfl | (simp; done) | (simp [*]; done)), (by first | rfl | (simp; done) | (simp [*]; done)), H', ⟨by have := HJ5.out; have := HK2.out; first | omega | exact Nat.le_refl _⟩, ⟨hF_ft148⟩, ⟨by (with_reducible repeat (first | apply Kd.R_alloc | apply Kd.R_drewN | apply Kd.R_drew)); exact HO_7.out⟩, ⟨by repeat (first | (with_reducible first | exact HB.out | apply below_alloc | apply pw_below_drewN | apply below_drew1) | exact HB.out)⟩⟩
                  case rest =>
                    clear HC16
                    try clear c1
                    try clear p1
                    try clear q1
                    try clear hx1
                    try clear p2
                    try clear c3
                    try clear c3b0
                    try clear c3b1
                    try clear c6
                    try clear c7
                    try clear c9
                    try clear c9b0
                    try clear c10
                    try clear c10b0
                    try clear c11
                    try clear c11b0
                    try clear c12
                    try clear c12b0
                    try clear c13
                    try clear c13b0
                    try clear c14
                    try clear c14b0
                    try clear p14
                    try clear q14
                    try clear hx14
                    try clear c17
                    try clear hx143_0
                    try clear hx144_0
                    try clear p1
                    try clear p143
                    try clear p144
                    try clear p2
                    try clear q1
                    try clear q143
                    try clear q144
                    obtain ⟨kq, x6_15, x9_15, b_x6_15, rfl, rfl, HA, HJ15, ⟨hF_x6_15⟩, HO_7, HB⟩ := hcut
                    cases kq with
                    | zero => exact absurd HA.out (by simp [impl_Smooth.j2])
                    | succ kj15 =>
                      have H := HA.out
                      clear HA
                      simp only [impl_Smooth.j2] at H
                      by_cases c18 : x9_15 = true
                      · subst c18
                        have H1 : (if x7_2.length < 17592186044416 then (impl_Smooth.l0 kj15 a1 x6_15 (x7_2 ++ [x6_15]) true l0 (l0.length : Int) (wrap64 (x27_2 + 1))) else (none)) = some (r1, r2) := by rw [if_pos rfl] at H; exact H
                        clear H
                        have H := H1
                        clear H1
                        by_cases c19 : x7_2.length < 17592186044416
                        · rw [if_pos c19] at H
                          have LMc19 := Aside0.mk c19
                          clear c19
                          obtain ⟨y149, hy149⟩ : ∃ y_ : List (Fl), y_ = (x7_2 ++ [x6_15]) := ⟨_, rfl⟩
                          replace H : (impl_Smooth.l0 kj15 a1 x6_15 y149 true l0 (l0.length : Int) (wrap64 (x27_2 + 1))) = some (r1, r2) := by first | (rw [hy149]; with_reducible exact H) | (have H2_ := (Option.bind_some _ _).symm.trans H; rw [hy149]; with_reducible exact H2_) | (have H2_ := (Option.bind_some _ _).symm.trans H; with_reducible exact H2_) | with_reducible exact H | (rw [hy149]; exact H) | exact H
                          have Ny149 := Aside0.mk hy149
                          clear hy149
                          have H' := Aside0.mk H
                          clear H
                          go_wp2_with (first | ((with_reducible refine gate_builtin (b := .append) (xs := #[.tmp 42, .tmp 44]) rfl ?_); at_builtin; refine Kd.R_append (Kd.fl .f64) (w0 := w) w.heap.size rfl (.tmp 42) (.tmp 44) 22 23 (.float .f64 0) 8 rfl Try.underlying22 info23 rfl (by decide) (by omega) u7 x7_2 x6_15 [.float .f64 b_x6_15] (fun _ => True) (fun _ => False) rfl rfl ?aP (fun _ hk => hk.elim) ?aF ?aO ?aB ?aS ?aL ?_; (case aP => exact Kd.M_fl hF_x6_15); (case aB => exact (by exact HB.out)); (case aF => exact (fun _ _ => trivial)); (case aO => exact (by exact HO_7.out)); (case aS => exact (below_size (by exact HB.out))); (case aL => have := LMc19.out; omega); intro v150 w20 ho hb hg hat; rw [← Ny149.out] at ho; have n0_ := Aside0.mk (hb); have n1_ := Aside0.mk (ho); clear HB; clear HO_7; have HB := n0_; have HO151 := n1_; clear n0_ n1_; clear ho hb hg hat))
                          go_roundg kj15
                          case measure => have := HJ5.out; have := HK2.out; have := HJ15.out; omega
                          case rel => exact ⟨(x6_15), (y149), (true), (wrap64 (x27_2 + 1)), b_x6_15, (by first | rfl | (simp; done) | (simp [*]; done)), (by first | rfl | (simp; done) | (simp [*]; done)), (by first | rfl | (simp; done) | (simp [*]; done)), H', ⟨by have := HJ5.out; have := HK2.out; have := HJ15.out; omega⟩, ⟨hF_x6_15⟩, ⟨by (with_reducible repeat (first | apply Kd.R_alloc | apply Kd.R_drewN | apply Kd.R_drew)); exact HO151.out⟩, ⟨by repeat (first | (with_reducible first | exact HB.out | apply below_alloc | apply pw_below_drewN | apply below_drew1) | exact HB.out)⟩⟩
                        · rw [if_neg c19] at H
                          exact absurd H (by simp)
                      · replace c18 := Bool.eq_false_iff.mpr c18
                        subst c18
                        have H1 : ((math_NaN.f).bind fun t152 => (if x7_2.length < 17592186044416 then (impl_Smooth.l0 kj15 a1 x6_15 (x7_2 ++ [t152]) false l0 (l0.length : Int) (wrap64 (x27_2 + 1))) else (none))) = some (r1, r2) := by rw [if_neg (show ¬ (false = true) by decide)] at H; exact H
                        clear H
                        have H := H1
                        clear H1
                        replace H := Option.bind_eq_some_iff.mp H
                        obtain ⟨t152, A210, H⟩ := H
                        replace H : (if x7_2.length < 17592186044416 then (impl_Smooth.l0 kj15 a1 x6_15 (x7_2 ++ [t152]) false l0 (l0.length : Int) (wrap64 (x27_2 + 1))) else (none)) = some (r1, r2) := H
                        have A21 := Aside0.mk A210
                        clear A210
                        by_cases c22 : x7_2.length < 17592186044416
                        · rw [if_pos c22] at H
                          have LMc22 := Aside0.mk c22
                          clear c22
                          obtain ⟨y153, hy153⟩ : ∃ y_ : List (Fl), y_ = (x7_2 ++ [t152]) := ⟨_, rfl⟩
                          replace H : (impl_Smooth.l0 kj15 a1 x6_15 y153 false l0 (l0.length : Int) (wrap64 (x27_2 + 1))) = some (r1, r2) := by first | (rw [hy153]; with_reducible exact H) | (have H2_ := (Option.bind_some _ _).symm.trans H; rw [hy153]; with_reducible exact H2_) | (have H2_ := (Option.bind_some _ _).symm.trans H; with_reducible exact H2_) | with_reducible exact H | (rw [hy153]; exact H) | exact H
                          have Ny153 := Aside0.mk hy153
                          clear hy153
                          have H' := Aside0.mk H
                          clear H
                          go_wp2_with (first | ((with_reducible refine gate_callee (f := 75) rfl ?_); refine goesL_ (some 47) rfl rfl Try.func75 (by kernel_rfl) rfl #[] rfl (by (try simp only [List.map_toArray, List.map_cons, List.map_nil]); first | done | rfl | (simp only [List.length_drop, List.length_take]; rfl)) ?_; (with_reducible refine (math_NaN.calls  t152 _ A21.out).mono ?_); rintro e w' ⟨b_t152, rfl, hF_t152, ⟨nd, rfl⟩⟩; refine ⟨_, rfl, ?_⟩) | ((with_reducible refine gate_builtin (b := .append) (xs := #[.tmp 46, .tmp 48]) rfl ?_); at_builtin; refine Kd.R_append (Kd.fl .f64) (w0 := w) w.heap.size rfl (.tmp 46) (.tmp 48) 22 23 (.float .f64 0) 8 rfl Try.underlying22 info23 rfl (by decide) (by omega) u7 x7_2 t152 [.float .f64 b_t152] (fun _ => True) (fun _ => False) rfl rfl ?aP (fun _ hk => hk.elim) ?aF ?aO ?aB ?aS ?aL ?_; (case aP => exact Kd.M_fl hF_t152); (case aB => exact (by repeat (first | (with_reducible first | exact HB.out | apply below_alloc | apply pw_below_drewN | apply below_drew1) | exact HB.out))); (case aF => exact (fun _ _ => trivial)); (case aO => exact (by (with_reducible repeat (first | apply Kd.R_alloc | apply Kd.R_drewN | apply Kd.R_drew)); exact HO_7.out)); (case aS => exact (below_size (by repeat (first | (with_reducible first | exact HB.out | apply below_alloc | apply pw_below_drewN | apply below_drew1) | exact HB.out)))); (case aL => have := LMc22.out; omega); intro v154 w23 ho hb hg hat; rw [← Ny153.out] at ho; have n0_ := Aside0.mk (hb); have n1_ := Aside0.mk (ho); clear HB; clear HO_7; have HB := n0_; have HO155 := n1_; clear n0_ n1_; clear ho hb hg hat))
                          go_roundg kj15
                          case measure => have := HJ5.out; have := HK2.out; have := HJ15.out; omega
                          case rel => exact ⟨(x6_15), (y153), (false), (wrap64 (x27_2 + 1)), b_x6_15, (by first | rfl | (simp; done) | (simp [*]; done)), (by first | rfl | (simp; done) | (simp [*]; done)), (by first | rfl | (simp; done) | (simp [*]; done)), H', ⟨by have := HJ5.out; have := HK2.out; have := HJ15.out; omega⟩, ⟨hF_x6_15⟩, ⟨by (with_reducible repeat (first | apply Kd.R_alloc | apply Kd.R_drewN | apply Kd.R_drew)); exact HO155.out⟩, ⟨by repeat (first | (with_reducible first | exact HB.out | apply below_alloc | apply pw_below_drewN | apply below_drew1) | exact HB.out)⟩⟩
                        · rw [if_neg c22] at H
                          exact absurd H (by simp)
                · rw [if_neg c14] at H
                  exact absurd H (by simp)
              · rw [if_neg c13] at H
                exact absurd H (by simp)
            · rw [if_neg c12] at H
              have c12b0 : decide (x27_2 < (l0.length : Int)) = false := decide_eq_false c12
              clear c12
              simp only [Option.some.injEq, Prod.mk.injEq] at H
              obtain ⟨rfl, rfl⟩ := H
              go_wp2
              go_ret2
              exact ⟨_, by first | rfl | (simp [errW_none, errW_some] <;> rfl) | (simp [*, errW_none, errW_some] <;> rfl), by (with_reducible repeat (first | apply Kd.R_alloc | apply Kd.R_drewN | apply Kd.R_drew)); exact HO_7.out, by repeat (first | (with_reducible first | exact HB.out | apply below_alloc | apply pw_below_drewN | apply below_drew1) | exact HB.out)⟩

/-! ### laws_markFloat64S: function 35 -/
def laws_markFloat64S.l0 : Nat → List (Fl) → Int → Int → Option (Int × (List (Fl)))
  | 0, _, _, _ => none
  | k + 1, x0, x1, x5 => if x5 < (x0.length : Int) then (if 0 ≤ x5 then (laws_markFloat64S.l0 k (x0.set (x5 : Int).toNat (fint .f64 x1)) (wrap64 (x1 + 1)) (wrap64 (x5 + 1))) else (none)) else (some (x1, x0))
def laws_markFloat64S.f (k : Nat) (l0 : List (Fl)) (a1 : Int) : Option (Int × (List (Fl))) := laws_markFloat64S.l0 k l0 a1 0
theorem laws_markFloat64S.mono_l : ∀ k, (∀ y0 y1 y2, LeO (laws_markFloat64S.l0 k y0 y1 y2) (laws_markFloat64S.l0 (k + 1) y0 y1 y2))
  | 0 => fun _ _ _ r h => by simp [laws_markFloat64S.l0] at h
  | k + 1 => by
    have ih0 := laws_markFloat64S.mono_l k
    · intro y0 y1 y2
      unfold laws_markFloat64S.l0
      repeat' first
      | (with_reducible exact ih0 _ _ _)
      | (with_reducible exact LeO.refl _)
      | (with_reducible exact LeO.none _)
      | (with_reducible refine LeO.ite ?_ ?_)
      | (with_reducible refine LeO.bind ?_ (fun _ => ?_))
      | exact ih0 _ _ _
      | exact LeO.none _
      | refine LeO.ite ?_ ?_
      | refine LeO.bind ?_ (fun _ => ?_)
theorem laws_markFloat64S.mono : ∀ a0 a1 k, LeO (laws_markFloat64S.f k a0 a1) (laws_markFloat64S.f (k + 1) a0 a1) := by
  intro a0 a1 k
  have ih0 := laws_markFloat64S.mono_l k
  unfold laws_markFloat64S.f
  repeat' first
      | (with_reducible exact ih0 _ _ _)
      | (with_reducible exact LeO.refl _)
      | (with_reducible exact LeO.none _)
      | (with_reducible refine LeO.ite ?_ ?_)
      | (with_reducible refine LeO.bind ?_ (fun _ => ?_))
      | exact ih0 _ _ _
      | exact LeO.none _
      | refine LeO.ite ?_ ?_
      | refine LeO.bind ?_ (fun _ => ?_)
set_option maxHeartbeats 8000000 in
set_option maxRecDepth 100000 in
theorem laws_markFloat64S.calls (k : Nat) (P0_ : Nat → Prop) (u9000_ : Value) (l0 : List (Fl)) (a1 : Int) (r1 : Int) (r2 : List (Fl)) (w0 w : World) (hB : Below w0.heap.size w0 w) (ho0 : Kd.R (Kd.fl .f64) 23 w w0.heap.size P0_ u9000_ l0) (h : laws_markFloat64S.f k l0 a1 = some (r1, r2)) :
    Calls Try.prog 35 #[u9000_, .int .i64 a1] w fun e w' => e = .returned (.int .i64 r1) ∧ Kd.R (Kd.fl .f64) 23 w' w0.heap.size (fun k_ => (P0_ k_ ∨ w.heap.size ≤ k_)) u9000_ r2 ∧ Below w0.heap.size w0 w' ∧ Kept w w' (fun k_ => P0_ k_) := by
  have HO0 := Aside0.mk (show Kd.R (Kd.fl .f64) 23 w w0.heap.size (fun k_ => (P0_ k_ ∨ w.heap.size ≤ k_)) u9000_ l0 from Kd.R_mono ho0 (fun k_ hk => (.inl hk)))
  have HK := Aside0.mk (Kept.refl w (fun k_ => P0_ k_))
  have HW0 := Aside0.mk hB.size
  have HB := Aside0.mk hB
  clear hB
  have H : (laws_markFloat64S.l0 k l0 a1 0) = some (r1, r2) := h
  clear h
  have H' := Aside0.mk H
  clear H
  go_enter Try.func35, Try.ntmps35
  go_wp2
  go_loopg [1, 5] k (fun kq v1 v5 w' => ∃ (x0_1 : List (Fl)) (x1_1 : Int) (x5_1 : Int), v1 = .int .i64 x1_1 ∧ v5 = .int .i64 x5_1 ∧ Aside0 (laws_markFloat64S.l0 kq x0_1 x1_1 x5_1 = some (r1, r2)) ∧ Aside0 (kq ≤ k) ∧ Aside0 (Kd.R (Kd.fl .f64) 23 w' w0.heap.size (fun k_ => (P0_ k_ ∨ w.heap.size ≤ k_)) u9000_ x0_1) ∧ Aside0 (Kept w w' (fun k_ => P0_ k_)) ∧ Aside0 (Below w0.heap.size w0 w'))
  case atStart => exact ⟨(l0), (a1), (0), (by first | rfl | (simp; done) | (simp [*]; done)), (by first | rfl | (simp; done) | (simp [*]; done)), H', ⟨Nat.le_refl _⟩, ⟨by (with_reducible repeat (first | apply Kd.R_alloc | apply Kd.R_drewN | apply Kd.R_drew)); exact HO0.out⟩, ⟨by repeat (first | (with_reducible first | exact HK.out | apply Kept.alloc | apply Kept.drewN | apply Kept.drew) | exact HK.out)⟩, ⟨by repeat (first | (with_reducible first | exact HB.out | apply below_alloc | apply pw_below_drewN | apply below_drew1) | exact HB.out)⟩⟩
  case round =>
    clear H'
    try clear p2
    obtain ⟨x0_1, x1_1, x5_1, rfl, rfl, HA, HK1, HO_0, HK, HB⟩ := hrel
    cases gk with
    | zero => exact absurd HA.out (by simp [laws_markFloat64S.l0])
    | succ k1 =>
      have H := HA.out
      clear HA
      simp only [laws_markFloat64S.l0] at H
      by_cases c3 : x5_1 < (x0_1.length : Int)
      · rw [if_pos c3] at H
        have c3b0 : decide (x5_1 < (x0_1.length : Int)) = true := decide_eq_true c3
        clear c3
        obtain ⟨ft156, hft156⟩ : ∃ y_ : Fl, y_ = (fint .f64 x1_1) := ⟨_, rfl⟩
        replace H : (if 0 ≤ x5_1 then (laws_markFloat64S.l0 k1 (x0_1.set (x5_1 : Int).toNat ft156) (wrap64 (x1_1 + 1)) (wrap64 (x5_1 + 1))) else (none)) = some (r1, r2) := by first | (rw [hft156]; with_reducible exact H) | (have H2_ := (Option.bind_some _ _).symm.trans H; rw [hft156]; with_reducible exact H2_) | (have H2_ := (Option.bind_some _ _).symm.trans H; with_reducible exact H2_) | with_reducible exact H | (rw [hft156]; exact H) | exact H
        have Nft156 := Aside0.mk hft156
        clear hft156
        by_cases c4 : 0 ≤ x5_1
        · rw [if_pos c4] at H
          have c4b0 : decide (0 ≤ x5_1) = true := decide_eq_true c4
          clear c4
          obtain ⟨y157, hy157⟩ : ∃ y_ : List (Fl), y_ = (x0_1.set (x5_1 : Int).toNat ft156) := ⟨_, rfl⟩
          replace H : (laws_markFloat64S.l0 k1 y157 (wrap64 (x1_1 + 1)) (wrap64 (x5_1 + 1))) = some (r1, r2) := by first | (rw [hy157]; with_reducible exact H) | (have H2_ := (Option.bind_some _ _).symm.trans H; rw [hy157]; with_reducible exact H2_) | (have H2_ := (Option.bind_some _ _).symm.trans H; with_reducible exact H2_) | with_reducible exact H | (rw [hy157]; exact H) | exact H
          have Ny157 := Aside0.mk hy157
          clear hy157
          have H' := Aside0.mk H
          clear H
          obtain ⟨Ao6, co6, eo6⟩ := Kd.R_slice HO_0.out
          subst eo6
          go_wp2_with (first | ((with_reducible refine gate_dst (N := 15) rfl ?_); refine fint_event rfl (N := 15) rfl rfl .f64 .i64 x1_1 Try.underlying3 Try.underlying23 rfl ?_; intro b_ft156 nf_ hF_; replace hF_ := hF_.trans Nft156.out.symm; have hF_ft156 := hF_; clear hF_; (try (rw [drewN_self wr]; generalize hq_ : World.drewN wr _ = wr; have n0_ : Aside0 (Kd.R (Kd.fl .f64) 23 wr w0.heap.size (fun k_ => ((P0_ k_ ∨ w.heap.size ≤ k_))) (.slice Ao6 x0_1.length co6) x0_1) := ⟨by rw [← hq_]; exact (by (with_reducible repeat (first | apply Kd.R_alloc | apply Kd.R_drewN | apply Kd.R_drew)); exact HO_0.out)⟩; have n1_ : Aside0 (Kept w wr (fun k_ => P0_ k_)) := ⟨by rw [← hq_]; exact (by repeat (first | (with_reducible first | exact HK.out | apply Kept.alloc | apply Kept.drewN | apply Kept.drew) | exact HK.out))⟩; have n2_ : Aside0 (Below w0.heap.size w0 wr) := ⟨by rw [← hq_]; exact (by repeat (first | (with_reducible first | exact HB.out | apply below_alloc | apply pw_below_drewN | apply below_drew1) | exact HB.out))⟩; clear HO_0 HK HB hq_; have HO_0 := n0_; have HK := n1_; have HB := n2_; clear n0_ n1_ n2_)); have p5 : 0 ≤ (x5_1 : Int) := of_decide_eq_true (by first | (with_reducible assumption) | assumption); have q5 : (x5_1 : Int) < ((x0_1.length : Int) : Int) := of_decide_eq_true (by first | (with_reducible assumption) | assumption); obtain ⟨go5, co5, eo5, gb5, gl5, cl5, HG5⟩ := Kd.R_form HO_0.out (by omega); (first | cases eo5 | (injection eo5 with ea_ en_ ec_; (first | subst ea_ | (injection ea_ with ea_; subst ea_)); subst ec_; clear en_)); have GB5 := Aside0.mk gb5; have GG5 := Aside0.mk HG5; clear gb5 gl5 HG5; have HMgo5 := Aside0.mk (show (P0_ go5 ∨ w.heap.size ≤ go5) from (HO_0.out.1 _ rfl)); obtain ⟨ce5, hcl5, hM5, hcc5, hfr5⟩ := Kd.R_elem HO_0.out (cn .f64 0) (x5_1 : Int) p5 q5; obtain ⟨b_fr5_0, rfl, hF5_0⟩ := hM5; have hx5_0 := hcc5 0 _ rfl; have hf5_0 := hfr5 0; (try simp only [show ((Kd.fl .f64)).sz = 1 from rfl, Nat.mul_one, Nat.add_zero] at hx5_0); (try simp only [show ((Kd.fl .f64)).sz = 1 from rfl, Nat.mul_one, Nat.add_zero] at hf5_0); clear hcl5 hcc5 hfr5; (try clear hM5); replace p5 := eq_true p5; replace q5 := eq_true q5; have HX7 := Aside0.mk (show Kd.R (Kd.fl .f64) 23 wr w0.heap.size (fun k_ => (P0_ k_ ∨ w.heap.size ≤ k_)) (.slice (some ⟨go5, 0, none⟩) x0_1.length co6) x0_1 from (by exact HO_0.out)); obtain ⟨ce7, hcl7, hM7, hcc7, hfr7⟩ := Kd.R_elem HX7.out (cn .f64 0) (x5_1 : Int) (of_decide_eq_true (by first | (with_reducible assumption) | assumption)) (by have h_ : (x5_1 : Int) < ((x0_1.length : Int) : Int) := of_decide_eq_true (by first | (with_reducible assumption) | assumption); first | exact h_ | (have e_ := (Kd.R_reads' HO_0.out).1; omega) | simpa using h_); obtain ⟨b_fr7_0, rfl, hF7_0⟩ := hM7; have HP7 := Kd.R_seg HX7.out (x5_1 : Int) (of_decide_eq_true (by first | (with_reducible assumption) | assumption)) (by have h_ : (x5_1 : Int) < ((x0_1.length : Int) : Int) := of_decide_eq_true (by first | (with_reducible assumption) | assumption); first | exact h_ | (have e_ := (Kd.R_reads' HO_0.out).1; omega) | simpa using h_) (seg := [.float .f64 b_ft156]) (j := 0) hcl7 hcc7 (show 1 ≤ 1 from by decide) (x' := ft156) (Kd.M_fl hF_ft156) (fun _ hk => hk); have hx7_0 := hcc7 0 _ rfl; (try simp only [show ((Kd.fl .f64)).sz = 1 from rfl, Nat.mul_one, Nat.add_zero] at hx7_0); have hf7_0 := hfr7 0; (try simp only [show ((Kd.fl .f64)).sz = 1 from rfl, Nat.mul_one, Nat.add_zero] at hf7_0); clear hcl7 hcc7 hfr7; (try clear hM7); (try simp only [show ((Kd.fl .f64)).sz = 1 from rfl, Nat.mul_one, Nat.add_zero] at HP7)) | ((with_reducible refine gate_store (t := 23) (p := 16) rfl ?_); refine store_event (t := 23) (p := 16) (v := ?vo_w8) (w1 := (wr.setCell ⟨go5, (x5_1 : Int).toNat, none⟩ (.float .f64 b_ft156))) ?hg ?ho ?hn ?hr ?_; (case ho => rfl); (case hg => rfl); (case hn => rfl); (case hr => first | (go_simp; done) | (go_simp; rfl)); intro w8 hw; have hg : wr.grownBy w8 (some go5) := (by rw [hw]; exact HP7.2); have hp_ : Kd.R (Kd.fl .f64) 23 w8 w0.heap.size (fun k_ => (P0_ k_ ∨ w.heap.size ≤ k_)) (.slice (some ⟨go5, 0, none⟩) x0_1.length co6) y157 := (by rw [hw, Ny157.out]; exact HP7.1); clear HP7; have n0_ := Aside0.mk (hp_); have n1_ := Aside0.mk ((by rw [hw]; exact below_set (HB.out) GB5.out : Below w0.heap.size w0 w8)); have n2_ := Aside0.mk (Kept.of_grown (S := (fun k_ => P0_ k_)) hg (by repeat (first | (with_reducible first | exact HK.out | apply Kept.alloc | apply Kept.drewN | apply Kept.drew) | exact HK.out)) (fun k_ e_ => (HO_0.out.1 k_ e_))); clear HO_0; clear HB; clear HK; have HO_0 := n0_; have HB := n1_; have HK := n2_; clear n0_ n1_ n2_; clear hg hw hp_))
          go_roundg k1
          case measure => have := HK1.out; omega
          case rel => exact ⟨(y157), (wrap64 (x1_1 + 1)), (wrap64 (x5_1 + 1)), (by first | rfl | (simp; done) | (simp [*]; done)), (by first | rfl | (simp; done) | (simp [*]; done)), H', ⟨by have := HK1.out; omega⟩, ⟨by (with_reducible repeat (first | apply Kd.R_alloc | apply Kd.R_drewN | apply Kd.R_drew)); exact HO_0.out⟩, ⟨by repeat (first | (with_reducible first | exact HK.out | apply Kept.alloc | apply Kept.drewN | apply Kept.drew) | exact HK.out)⟩, ⟨by repeat (first | (with_reducible first | exact HB.out | apply below_alloc | apply pw_below_drewN | apply below_drew1) | exact HB.out)⟩⟩
        · rw [if_neg c4] at H
          exact absurd H (by simp)
      · rw [if_neg c3] at H
        have c3b0 : decide (x5_1 < (x0_1.length : Int)) = false := decide_eq_false c3
        clear c3
        simp only [Option.some.injEq, Prod.mk.injEq] at H
        obtain ⟨rfl, rfl⟩ := H
        obtain ⟨Ao9, co9, eo9⟩ := Kd.R_slice HO_0.out
        subst eo9
        go_wp2
        go_ret
        exact ⟨by first | rfl | (simp [errW_none, errW_some] <;> rfl) | (simp [*, errW_none, errW_some] <;> rfl), by (with_reducible repeat (first | apply Kd.R_alloc | apply Kd.R_drewN | apply Kd.R_drew)); exact HO_0.out, by repeat (first | (with_reducible first | exact HB.out | apply below_alloc | apply pw_below_drewN | apply below_drew1) | exact HB.out), by repeat (first | (with_reducible first | exact HK.out | apply Kept.alloc | apply Kept.drewN | apply Kept.drew) | exact HK.out)⟩

/-! ### laws_heldFloat64S: function 36 -/
def laws_heldFloat64S.l0 : Nat → List (Fl) → Int → Int → Option (Int)
  | 0, _, _, _ => none
  | k + 1, x0, x1, x5 => if x5 < (x0.length : Int) then (if 0 ≤ x5 then (if (fcmp .neq .f64 (rdf .f64 x0 x5) (fint .f64 x1)) = true then (some (-1)) else (laws_heldFloat64S.l0 k x0 (wrap64 (x1 + 1)) (wrap64 (x5 + 1)))) else (none)) else (some x1)
def laws_heldFloat64S.f (k : Nat) (l0 : List (Fl)) (a1 : Int) : Option (Int) := laws_heldFloat64S.l0 k l0 a1 0
theorem laws_heldFloat64S.mono_l : ∀ k, (∀ y0 y1 y2, LeO (laws_heldFloat64S.l0 k y0 y1 y2) (laws_heldFloat64S.l0 (k + 1) y0 y1 y2))
  | 0 => fun _ _ _ r h => by simp [laws_heldFloat64S.l0] at h
  | k + 1 => by
    have ih0 := laws_heldFloat64S.mono_l k
    · intro y0 y1 y2
      unfold laws_heldFloat64S.l0
      repeat' first
      | (with_reducible exact ih0 _ _ _)
      | (with_reducible exact LeO.refl _)
      | (with_reducible exact LeO.none _)
      | (with_reducible refine LeO.ite ?_ ?_)
      | (with_reducible refine LeO.bind ?_ (fun _ => ?_))
      | exact ih0 _ _ _
      | exact LeO.none _
      | refine LeO.ite ?_ ?_
      | refine LeO.bind ?_ (fun _ => ?_)
theorem laws_heldFloat64S.mono : ∀ a0 a1 k, LeO (laws_heldFloat64S.f k a0 a1) (laws_heldFloat64S.f (k + 1) a0 a1) := by
  intro a0 a1 k
  have ih0 := laws_heldFloat64S.mono_l k
  unfold laws_heldFloat64S.f
  repeat' first
      | (with_reducible exact ih0 _ _ _)
      | (with_reducible exact LeO.refl _)
      | (with_reducible exact LeO.none _)
      | (with_reducible refine LeO.ite ?_ ?_)
      | (with_reducible refine LeO.bind ?_ (fun _ => ?_))
      | exact ih0 _ _ _
      | exact LeO.none _
      | refine LeO.ite ?_ ?_
      | refine LeO.bind ?_ (fun _ => ?_)
set_option maxHeartbeats 8000000 in
set_option maxRecDepth 100000 in
theorem laws_heldFloat64S.calls (k : Nat) (A0 : Option Addr) (c0 : Nat) (l0 : List (Fl)) (a1 : Int) (r : Int) (w : World) (hr0 : Kd.C (Kd.fl .f64) w A0 l0.length l0) (hc0 : l0.length ≤ c0) (h : laws_heldFloat64S.f k l0 a1 = some r) :
    Calls Try.prog 36 #[.slice A0 l0.length c0, .int .i64 a1] w fun e w' => e = .returned (.int .i64 r) ∧ Drawn0 w w' := by
  have HR0 := Aside0.mk hr0
  have HC0 := Aside0.mk hc0
  clear hr0 hc0
  have H : (laws_heldFloat64S.l0 k l0 a1 0) = some r := h
  clear h
  have H' := Aside0.mk H
  clear H
  go_enter Try.func36, Try.ntmps36
  go_wp2
  go_loopg [1, 5] k (fun kq v1 v5 w' => ∃ (x1_1 : Int) (x5_1 : Int), v1 = .int .i64 x1_1 ∧ v5 = .int .i64 x5_1 ∧ Aside0 (laws_heldFloat64S.l0 kq l0 x1_1 x5_1 = some r) ∧ Aside0 (kq ≤ k) ∧ Drawn0 w w')
  case atStart => exact ⟨(a1), (0), (by first | rfl | (simp; done) | (simp [*]; done)), (by first | rfl | (simp; done) | (simp [*]; done)), H', ⟨Nat.le_refl _⟩, by repeat (first | exact Drawn0.refl _ | apply Drawn0.step)⟩
  case round =>
    clear H'
    try clear p2
    obtain ⟨x1_1, x5_1, rfl, rfl, HA, HK1, ⟨m1, rfl⟩⟩ := hrel
    cases gk with
    | zero => exact absurd HA.out (by simp [laws_heldFloat64S.l0])
    | succ k1 =>
      have H := HA.out
      clear HA
      simp only [laws_heldFloat64S.l0] at H
      by_cases c3 : x5_1 < (l0.length : Int)
      · rw [if_pos c3] at H
        have c3b0 : decide (x5_1 < (l0.length : Int)) = true := decide_eq_true c3
        clear c3
        by_cases c4 : 0 ≤ x5_1
        · rw [if_pos c4] at H
          have c4b0 : decide (0 ≤ x5_1) = true := decide_eq_true c4
          clear c4
          obtain ⟨fr158_0, hfr158_0⟩ : ∃ y_ : Fl, y_ = (rdf .f64 l0 x5_1) := ⟨_, rfl⟩
          replace H : (if (fcmp .neq .f64 fr158_0 (fint .f64 x1_1)) = true then (some (-1)) else (laws_heldFloat64S.l0 k1 l0 (wrap64 (x1_1 + 1)) (wrap64 (x5_1 + 1)))) = some r := by first | (rw [hfr158_0]; with_reducible exact H) | (have H2_ := (Option.bind_some _ _).symm.trans H; rw [hfr158_0]; with_reducible exact H2_) | (have H2_ := (Option.bind_some _ _).symm.trans H; with_reducible exact H2_) | with_reducible exact H | (rw [hfr158_0]; exact H) | exact H
          have Nfr158_0 := Aside0.mk hfr158_0
          clear hfr158_0
          obtain ⟨ft159, hft159⟩ : ∃ y_ : Fl, y_ = (fint .f64 x1_1) := ⟨_, rfl⟩
          replace H : (if (fcmp .neq .f64 fr158_0 ft159) = true then (some (-1)) else (laws_heldFloat64S.l0 k1 l0 (wrap64 (x1_1 + 1)) (wrap64 (x5_1 + 1)))) = some r := by first | (rw [hft159]; with_reducible exact H) | (have H2_ := (Option.bind_some _ _).symm.trans H; rw [hft159]; with_reducible exact H2_) | (have H2_ := (Option.bind_some _ _).symm.trans H; with_reducible exact H2_) | with_reducible exact H | (rw [hft159]; exact H) | exact H
          have Nft159 := Aside0.mk hft159
          clear hft159
          by_cases c5 : (fcmp .neq .f64 fr158_0 ft159) = true
          · rw [if_pos c5] at H
            have c5b0 : (fcmp .neq .f64 fr158_0 ft159) = true := c5
            clear c5
            obtain rfl := Option.some.inj H
            have p158 : 0 ≤ (x5_1 : Int) := of_decide_eq_true (by first | (with_reducible assumption) | assumption)
            have q158 : x5_1 < (l0.length : Int) := of_decide_eq_true (by first | (with_reducible assumption) | assumption)
            obtain ⟨ad158, b_fr158_0, e158, hx158_0, hF158_0⟩ := Kd.at_fl HR0.out x5_1 p158 q158
            have hF_fr158_0 := hF158_0.trans Nfr158_0.out.symm
            clear hF158_0
            cases e158
            replace p158 := eq_true p158
            replace q158 := eq_true q158
            go_wp2_with (first | ((with_reducible refine gate_dst (N := 17) rfl ?_); refine fint_event rfl (N := 17) rfl rfl .f64 .i64 x1_1 Try.underlying3 Try.underlying23 rfl ?_; intro b_ft159 nf_ hF_; replace hF_ := hF_.trans Nft159.out.symm; have hF_ft159 := hF_; clear hF_))
            go_ret
            exact ⟨by first | rfl | (simp; done) | (simp [*]; done), by repeat (first | exact Drawn0.refl _ | apply Drawn0.step)⟩
          · rw [if_neg c5] at H
            have c5b0 : (fcmp .neq .f64 fr158_0 ft159) = false := by simpa using c5
            clear c5
            have H' := Aside0.mk H
            clear H
            have p158 : 0 ≤ (x5_1 : Int) := of_decide_eq_true (by first | (with_reducible assumption) | assumption)
            have q158 : x5_1 < (l0.length : Int) := of_decide_eq_true (by first | (with_reducible assumption) | assumption)
            obtain ⟨ad158, b_fr158_0, e158, hx158_0, hF158_0⟩ := Kd.at_fl HR0.out x5_1 p158 q158
            have hF_fr158_0 := hF158_0.trans Nfr158_0.out.symm
            clear hF158_0
            cases e158
            replace p158 := eq_true p158
            replace q158 := eq_true q158
            go_wp2_with (first | ((with_reducible refine gate_dst (N := 17) rfl ?_); refine fint_event rfl (N := 17) rfl rfl .f64 .i64 x1_1 Try.underlying3 Try.underlying23 rfl ?_; intro b_ft159 nf_ hF_; replace hF_ := hF_.trans Nft159.out.symm; have hF_ft159 := hF_; clear hF_))
            go_roundg k1
            case measure => have := HK1.out; omega
            case rel => exact ⟨(wrap64 (x1_1 + 1)), (wrap64 (x5_1 + 1)), (by first | rfl | (simp; done) | (simp [*]; done)), (by first | rfl | (simp; done) | (simp [*]; done)), H', ⟨by have := HK1.out; omega⟩, by repeat (first | exact Drawn0.refl _ | apply Drawn0.step)⟩
        · rw [if_neg c4] at H
          exact absurd H (by simp)
      · rw [if_neg c3] at H
        have c3b0 : decide (x5_1 < (l0.length : Int)) = false := decide_eq_false c3
        clear c3
        obtain rfl := Option.some.inj H
        go_wp2
        go_ret
        exact ⟨by first | rfl | (simp; done) | (simp [*]; done), by repeat (first | exact Drawn0.refl _ | apply Drawn0.step)⟩

end Go.Proofs.Ytfopdbdamkfglaa.QFnExactSmooth
