/- Lean functions that tell what the Go functions used by one law answer, and for each a proof that the Go code comes to just these answers; no condition. Printed by this session's own program over the kit's printer. -/
import Derived.Test.YtfopdbdamkfglaaQFnExactSmoothx0
namespace Go.Proofs.Ytfopdbdamkfglaa.QFnExactSmooth
open Go.RowKit Go.Proofs.YtfopdbdamkfglaaW.PrintWords Go.Proofs.YtfopdbdamkfglaaW.PrintLast Go.Proofs.YtfopdbdamkfglaaW.PrintMore
attribute [local go_sem] max2_int min2_int max_two min_two max_three min_three max_four min_four   -- for this text's walks alone
attribute [local go_sem high] go_eql go_neq go_lss go_leq go_gtr go_geq go_store   -- for this text's walks alone
set_option linter.unusedVariables false
set_option linter.unusedSimpArgs false

/-! ### laws_toFloat64S: function 15 -/
def laws_toFloat64S.l0 : Nat → List (Fl) → List (Fl) → Int → Option ((List (Fl)))
  | 0, _, _, _ => none
  | k + 1, x0, x3, x4 => if x4 < (x0.length : Int) then (if 0 ≤ x4 then (if x4 < (x3.length : Int) then (laws_toFloat64S.l0 k x0 (x3.set (x4 : Int).toNat (rdf .f64 x0 x4)) (wrap64 (x4 + 1))) else (none)) else (none)) else (some x3)
def laws_toFloat64S.f (k : Nat) (l0 : List (Fl)) : Option ((List (Fl))) := if 0 ≤ (l0.length : Int) then (if ((l0.length : Int) : Int).toNat ≤ 35184372088832 then (laws_toFloat64S.l0 k l0 (List.replicate ((l0.length : Int) : Int).toNat (cn .f64 0)) 0) else (none)) else (none)
theorem laws_toFloat64S.mono_l : ∀ k, (∀ y0 y1 y2, LeO (laws_toFloat64S.l0 k y0 y1 y2) (laws_toFloat64S.l0 (k + 1) y0 y1 y2))
  | 0 => fun _ _ _ r h => by simp [laws_toFloat64S.l0] at h
  | k + 1 => by
    have ih0 := laws_toFloat64S.mono_l k
    · intro y0 y1 y2
      unfold laws_toFloat64S.l0
      repeat' first
      | (with_reducible exact ih0 _ _ _)
      | (with_reducible exact LeO.refl _)
      | (with_reducible exact LeO.none _)
      | (with_reducible refine LeO.ite ?_ ?_)
      | (with_reducible refine LeO.bind ?_ (fun _ => ?_))
      | exact ih0 _ _ _
      | exact LeO.none _
      | refine LeO.ite ?_ ?_
      | refine LeO.bind ?_ (fun _ => ?_)
theorem laws_toFloat64S.mono : ∀ a0 k, LeO (laws_toFloat64S.f k a0) (laws_toFloat64S.f (k + 1) a0) := by
  intro a0 k
  have ih0 := laws_toFloat64S.mono_l k
  unfold laws_toFloat64S.f
  repeat' first
      | (with_reducible exact ih0 _ _ _)
      | (with_reducible exact LeO.refl _)
      | (with_reducible exact LeO.none _)
      | (with_reducible refine LeO.ite ?_ ?_)
      | (with_reducible refine LeO.bind ?_ (fun _ => ?_))
      | exact ih0 _ _ _
      | exact LeO.none _
      | refine LeO.ite ?_ ?_
      | refine LeO.bind ?_ (fun _ => ?_)
set_option maxHeartbeats 8000000 in
set_option maxRecDepth 100000 in
theorem laws_toFloat64S.calls (k : Nat) (A0 : Option Addr) (c0 : Nat) (l0 : List (Fl)) (r : List (Fl)) (w : World) (hr0 : Kd.C (Kd.fl .f64) w A0 l0.length l0) (hc0 : l0.length ≤ c0) (h : laws_toFloat64S.f k l0 = some r) :
    Calls Try.prog 15 #[.slice A0 l0.length c0] w fun e w' => ∃ v0_ : Value, e = .returned (v0_) ∧ Kd.R (Kd.fl .f64) 23 w' w.heap.size (fun _ => True) v0_ r ∧ Below w.heap.size w w' := by
  have HR0 := Aside0.mk hr0
  have HC0 := Aside0.mk hc0
  clear hr0 hc0
  have HB := Aside0.mk (Below.refl w.heap.size w)
  have H : (if 0 ≤ (l0.length : Int) then (if ((l0.length : Int) : Int).toNat ≤ 35184372088832 then (laws_toFloat64S.l0 k l0 (List.replicate ((l0.length : Int) : Int).toNat (cn .f64 0)) 0) else (none)) else (none)) = some r := h
  clear h
  by_cases c2 : 0 ≤ (l0.length : Int)
  · rw [if_pos c2] at H
    have c2b0 := eq_true c2
    have c2b1 : decide (0 ≤ (l0.length : Int)) = true := decide_eq_true c2
    clear c2
    by_cases c3 : ((l0.length : Int) : Int).toNat ≤ 35184372088832
    · rw [if_pos c3] at H
      have c3b0 := eq_true c3
      have c3b1 : decide (((l0.length : Int) : Int).toNat ≤ 35184372088832) = true := decide_eq_true c3
      clear c3
      obtain ⟨y101, hy101⟩ : ∃ y_ : List (Fl), y_ = (List.replicate ((l0.length : Int) : Int).toNat (cn .f64 0)) := ⟨_, rfl⟩
      replace H : (laws_toFloat64S.l0 k l0 y101 0) = some r := by first | (rw [hy101]; with_reducible exact H) | (have H2_ := (Option.bind_some _ _).symm.trans H; rw [hy101]; with_reducible exact H2_) | (have H2_ := (Option.bind_some _ _).symm.trans H; with_reducible exact H2_) | with_reducible exact H | (rw [hy101]; exact H) | exact H
      have Ny101 := Aside0.mk hy101
      clear hy101
      have H' := Aside0.mk H
      clear H
      go_enter Try.func15, Try.ntmps15
      go_wp2_with (first | ((with_reducible refine gate_dst (N := 7) rfl ?_); refine Kd.R_make (Kd.fl .f64) _ 23 rfl (N := 7) rfl 22 _ _ rfl (l0.length : Int) rfl rfl Try.underlying22 (.float .f64 0) 8 info23 rfl (by decide) (by omega) (cn .f64 0) (ok := fun _ => True) (okp := fun _ => True) (Kd.M_fl rfl) (fun _ hk => hk) trivial (of_decide_eq_true (by first | (with_reducible assumption) | assumption)) (Nat.le_trans (Nat.mul_le_mul_right _ (of_decide_eq_true (by first | (with_reducible assumption) | assumption) : (l0.length : Int).toNat ≤ 35184372088832)) (by omega)) (Below.refl _ _) (Nat.le_refl _) ?_; intro v102 w4 ho5 hb hg_ hnew_; clear hg_ hnew_; (first | rw [← Ny101.out] at ho5 | (simp only [Int.reduceToNat] at ho5; rw [← Ny101.out] at ho5)); have n0_ := Aside0.mk (Kd.R_lower ho5 (below_size (by exact HB.out))); have n1_ := Aside0.mk (below_step (by exact HB.out) hb); clear HB; have HO103 := n0_; have HB := n1_; clear n0_ n1_; clear hb ho5))
      go_loopg [4] k (fun kq v4 w' => ∃ (x3_1 : List (Fl)) (x4_1 : Int), v4 = .int .i64 x4_1 ∧ Aside0 (laws_toFloat64S.l0 kq l0 x3_1 x4_1 = some r) ∧ Aside0 (kq ≤ k) ∧ Aside0 (Kd.R (Kd.fl .f64) 23 w' w.heap.size (fun _ => True) v102 x3_1) ∧ Aside0 (Below w.heap.size w w'))
      case atStart => exact ⟨(y101), (0), (by first | rfl | (simp; done) | (simp [*]; done)), H', ⟨Nat.le_refl _⟩, ⟨by (with_reducible repeat (first | apply Kd.R_alloc | apply Kd.R_drewN | apply Kd.R_drew)); exact HO103.out⟩, ⟨by repeat (first | (with_reducible first | exact HB.out | apply below_alloc | apply pw_below_drewN | apply below_drew1) | exact HB.out)⟩⟩
      case round =>
        clear H'
        try clear c1
        try clear c2
        try clear c2b0
        try clear c2b1
        try clear p2
        try clear c3
        try clear c3b0
        try clear c3b1
        obtain ⟨x3_1, x4_1, rfl, HA, HK1, HO_3, HB⟩ := hrel
        cases gk with
        | zero => exact absurd HA.out (by simp [laws_toFloat64S.l0])
        | succ k1 =>
          have H := HA.out
          clear HA
          simp only [laws_toFloat64S.l0] at H
          by_cases c6 : x4_1 < (l0.length : Int)
          · rw [if_pos c6] at H
            have c6b0 : decide (x4_1 < (l0.length : Int)) = true := decide_eq_true c6
            clear c6
            by_cases c7 : 0 ≤ x4_1
            · rw [if_pos c7] at H
              have c7b0 : decide (0 ≤ x4_1) = true := decide_eq_true c7
              clear c7
              obtain ⟨fr104_0, hfr104_0⟩ : ∃ y_ : Fl, y_ = (rdf .f64 l0 x4_1) := ⟨_, rfl⟩
              replace H : (if x4_1 < (x3_1.length : Int) then (laws_toFloat64S.l0 k1 l0 (x3_1.set (x4_1 : Int).toNat fr104_0) (wrap64 (x4_1 + 1))) else (none)) = some r := by first | (rw [hfr104_0]; with_reducible exact H) | (have H2_ := (Option.bind_some _ _).symm.trans H; rw [hfr104_0]; with_reducible exact H2_) | (have H2_ := (Option.bind_some _ _).symm.trans H; with_reducible exact H2_) | with_reducible exact H | (rw [hfr104_0]; exact H) | exact H
              have Nfr104_0 := Aside0.mk hfr104_0
              clear hfr104_0
              by_cases c8 : x4_1 < (x3_1.length : Int)
              · rw [if_pos c8] at H
                have c8b0 : decide (x4_1 < (x3_1.length : Int)) = true := decide_eq_true c8
                clear c8
                obtain ⟨y105, hy105⟩ : ∃ y_ : List (Fl), y_ = (x3_1.set (x4_1 : Int).toNat fr104_0) := ⟨_, rfl⟩
                replace H : (laws_toFloat64S.l0 k1 l0 y105 (wrap64 (x4_1 + 1))) = some r := by first | (rw [hy105]; with_reducible exact H) | (have H2_ := (Option.bind_some _ _).symm.trans H; rw [hy105]; with_reducible exact H2_) | (have H2_ := (Option.bind_some _ _).symm.trans H; with_reducible exact H2_) | with_reducible exact H | (rw [hy105]; exact H) | exact H
                have Ny105 := Aside0.mk hy105
                clear hy105
                have H' := Aside0.mk H
                clear H
                have p104 : 0 ≤ (x4_1 : Int) := of_decide_eq_true (by first | (with_reducible assumption) | assumption)
                have q104 : x4_1 < (l0.length : Int) := of_decide_eq_true (by first | (with_reducible assumption) | assumption)
                obtain ⟨ad104, b_fr104_0, e104, hx104_0, hF104_0⟩ := Kd.at_fl HR0.out x4_1 p104 q104
                have hF_fr104_0 := hF104_0.trans Nfr104_0.out.symm
                clear hF104_0
                cases e104
                replace hx104_0 := (HB.out.cell (World.block_lt_of_cell? w _ hx104_0)).trans hx104_0
                replace p104 := eq_true p104
                replace q104 := eq_true q104
                have p9 : 0 ≤ (x4_1 : Int) := of_decide_eq_true (by first | (with_reducible assumption) | assumption)
                have q9 : (x4_1 : Int) < ((x3_1.length : Int) : Int) := of_decide_eq_true (by first | (with_reducible assumption) | assumption)
                obtain ⟨go9, co9, eo9, gb9, gl9, cl9, HG9⟩ := Kd.R_form HO_3.out (by omega)
                (first | cases eo9 | (injection eo9 with ea_ en_ ec_; (first | subst ea_ | (injection ea_ with ea_; subst ea_)); subst ec_; clear en_))
                have GB9 := Aside0.mk gb9
                have GG9 := Aside0.mk HG9
                clear gb9 gl9 HG9
                obtain ⟨ce9, hcl9, hM9, hcc9, hfr9⟩ := Kd.R_elem HO_3.out (cn .f64 0) (x4_1 : Int) p9 q9
                obtain ⟨b_fr9_0, rfl, hF9_0⟩ := hM9
                have hx9_0 := hcc9 0 _ rfl
                have hf9_0 := hfr9 0
                (try simp only [show ((Kd.fl .f64)).sz = 1 from rfl, Nat.mul_one, Nat.add_zero] at hx9_0)
                (try simp only [show ((Kd.fl .f64)).sz = 1 from rfl, Nat.mul_one, Nat.add_zero] at hf9_0)
                clear hcl9 hcc9 hfr9; (try clear hM9)
                replace p9 := eq_true p9
                replace q9 := eq_true q9
                have HX10 := Aside0.mk (show Kd.R (Kd.fl .f64) 23 wr w.heap.size (fun _ => True) (.slice (some ⟨go9, 0, none⟩) x3_1.length co9) x3_1 from (by exact HO_3.out))
                obtain ⟨ce10, hcl10, hM10, hcc10, hfr10⟩ := Kd.R_elem HX10.out (cn .f64 0) (x4_1 : Int) (of_decide_eq_true (by first | (with_reducible assumption) | assumption)) (by have h_ : (x4_1 : Int) < ((x3_1.length : Int) : Int) := of_decide_eq_true (by first | (with_reducible assumption) | assumption); first | exact h_ | (have e_ := (Kd.R_reads' HO_3.out).1; omega) | simpa using h_)
                obtain ⟨b_fr10_0, rfl, hF10_0⟩ := hM10
                have HP10 := Kd.R_seg HX10.out (x4_1 : Int) (of_decide_eq_true (by first | (with_reducible assumption) | assumption)) (by have h_ : (x4_1 : Int) < ((x3_1.length : Int) : Int) := of_decide_eq_true (by first | (with_reducible assumption) | assumption); first | exact h_ | (have e_ := (Kd.R_reads' HO_3.out).1; omega) | simpa using h_) (seg := [.float .f64 b_fr104_0]) (j := 0) hcl10 hcc10 (show 1 ≤ 1 from by decide) (x' := fr104_0) (Kd.M_fl hF_fr104_0) (fun _ hk => hk)
                have hx10_0 := hcc10 0 _ rfl
                (try simp only [show ((Kd.fl .f64)).sz = 1 from rfl, Nat.mul_one, Nat.add_zero] at hx10_0)
                have hf10_0 := hfr10 0
                (try simp only [show ((Kd.fl .f64)).sz = 1 from rfl, Nat.mul_one, Nat.add_zero] at hf10_0)
                clear hcl10 hcc10 hfr10; (try clear hM10)
                (try simp only [show ((Kd.fl .f64)).sz = 1 from rfl, Nat.mul_one, Nat.add_zero] at HP10)
                go_wp2_with (first | ((with_reducible refine gate_store (t := 23) (p := 20) rfl ?_); refine store_event (t := 23) (p := 20) (v := ?vo_w11) (w1 := (wr.setCell ⟨go9, (x4_1 : Int).toNat, none⟩ (.float .f64 b_fr104_0))) ?hg ?ho ?hn ?hr ?_; (case ho => rfl); (case hg => rfl); (case hn => rfl); (case hr => first | (go_simp; done) | (go_simp; rfl)); intro w11 hw; have hg : wr.grownBy w11 (some go9) := (by rw [hw]; exact HP10.2); have hp_ : Kd.R (Kd.fl .f64) 23 w11 w.heap.size (fun _ => True) (.slice (some ⟨go9, 0, none⟩) x3_1.length co9) y105 := (by rw [hw, Ny105.out]; exact HP10.1); clear HP10; have n0_ := Aside0.mk (hp_); have n1_ := Aside0.mk ((by rw [hw]; exact below_set (HB.out) GB9.out : Below w.heap.size w w11)); clear HO_3; clear HB; have HO_3 := n0_; have HB := n1_; clear n0_ n1_; clear hg hw hp_))
                go_roundg k1
                case measure => have := HK1.out; omega
                case rel => exact ⟨(y105), (wrap64 (x4_1 + 1)), (by first | rfl | (simp; done) | (simp [*]; done)), H', ⟨by have := HK1.out; omega⟩, ⟨by (with_reducible repeat (first | apply Kd.R_alloc | apply Kd.R_drewN | apply Kd.R_drew)); exact HO_3.out⟩, ⟨by repeat (first | (with_reducible first | exact HB.out | apply below_alloc | apply pw_below_drewN | apply below_drew1) | exact HB.out)⟩⟩
              · rw [if_neg c8] at H
                exact absurd H (by simp)
            · rw [if_neg c7] at H
              exact absurd H (by simp)
          · rw [if_neg c6] at H
            have c6b0 : decide (x4_1 < (l0.length : Int)) = false := decide_eq_false c6
            clear c6
            obtain rfl := Option.some.inj H
            go_wp2
            go_ret
            exact ⟨_, by first | rfl | (simp [errW_none, errW_some] <;> rfl) | (simp [*, errW_none, errW_some] <;> rfl), by (with_reducible repeat (first | apply Kd.R_alloc | apply Kd.R_drewN | apply Kd.R_drew)); exact HO_3.out, by repeat (first | (with_reducible first | exact HB.out | apply below_alloc | apply pw_below_drewN | apply below_drew1) | exact HB.out)⟩
    · rw [if_neg c3] at H
      exact absurd H (by simp)
  · rw [if_neg c2] at H
    exact absurd H (by simp)

/-! ### laws_sameFloat: function 17 -/
def laws_sameFloat.j0 : Nat → Fl → Fl → Bool → Option (Bool)
  | 0, _, _, _ => none
  | k + 1, x0, x1, x12 => if x12 = true then (if (fcmp .neq .f64 x0 x0) = true then (some (fcmp .neq .f64 x1 x1)) else (some false)) else (if (fcmp .eql .f64 x0 (cn .f64 0)) = true then (if (fcmp .eql .f64 x1 (cn .f64 0)) = true then (some ((fcmp .gtr .f64 (fop .quo .f64 (cn .f64 4607182418800017408) x0) (cn .f64 0)) == (fcmp .gtr .f64 (fop .quo .f64 (cn .f64 4607182418800017408) x1) (cn .f64 0)))) else (some (fcmp .eql .f64 x0 x1))) else (some (fcmp .eql .f64 x0 x1)))
def laws_sameFloat.f (k : Nat) (a0 : Fl) (a1 : Fl) : Option (Bool) := if (fcmp .neq .f64 a0 a0) = true then (laws_sameFloat.j0 k a0 a1 true) else (laws_sameFloat.j0 k a0 a1 (fcmp .neq .f64 a1 a1))
theorem laws_sameFloat.mono_l : ∀ k, (∀ y0 y1 y2, LeO (laws_sameFloat.j0 k y0 y1 y2) (laws_sameFloat.j0 (k + 1) y0 y1 y2))
  | 0 => fun _ _ _ r h => by simp [laws_sameFloat.j0] at h
  | k + 1 => by
    have ih0 := laws_sameFloat.mono_l k
    · intro y0 y1 y2
      unfold laws_sameFloat.j0
      repeat' first
      | (with_reducible exact ih0 _ _ _)
      | (with_reducible exact LeO.refl _)
      | (with_reducible exact LeO.none _)
      | (with_reducible refine LeO.ite ?_ ?_)
      | (with_reducible refine LeO.bind ?_ (fun _ => ?_))
      | exact ih0 _ _ _
      | exact LeO.none _
      | refine LeO.ite ?_ ?_
      | refine LeO.bind ?_ (fun _ => ?_)
theorem laws_sameFloat.mono : ∀ a0 a1 k, LeO (laws_sameFloat.f k a0 a1) (laws_sameFloat.f (k + 1) a0 a1) := by
  intro a0 a1 k
  have ih0 := laws_sameFloat.mono_l k
  unfold laws_sameFloat.f
  repeat' first
      | (with_reducible exact ih0 _ _ _)
      | (with_reducible exact LeO.refl _)
      | (with_reducible exact LeO.none _)
      | (with_reducible refine LeO.ite ?_ ?_)
      | (with_reducible refine LeO.bind ?_ (fun _ => ?_))
      | exact ih0 _ _ _
      | exact LeO.none _
      | refine LeO.ite ?_ ?_
      | refine LeO.bind ?_ (fun _ => ?_)
set_option maxHeartbeats 8000000 in
set_option maxRecDepth 100000 in
theorem laws_sameFloat.calls (k : Nat) (b_a0 : Nat) (a0 : Fl) (b_a1 : Nat) (a1 : Fl) (r : Bool) (w : World) (hF_a0 : cn .f64 b_a0 = a0) (hF_a1 : cn .f64 b_a1 = a1) (h : laws_sameFloat.f k a0 a1 = some r) :
    Calls Try.prog 17 #[.float .f64 b_a0, .float .f64 b_a1] w fun e w' => e = .returned (.bool r) ∧ Drawn0 w w' := by
  have H : (if (fcmp .neq .f64 a0 a0) = true then (laws_sameFloat.j0 k a0 a1 true) else (laws_sameFloat.j0 k a0 a1 (fcmp .neq .f64 a1 a1))) = some r := h
  clear h
  have HC3 := Aside0.mk H
  clear H
  go_enter Try.func17, Try.ntmps17
  go_upto_region 1 with (fail)
  go_cut [12] (fun v12 wc => ∃ (kq : Nat) (x12_2 : Bool), v12 = .bool x12_2 ∧ Aside0 (laws_sameFloat.j0 kq a0 a1 x12_2 = some r) ∧ Aside0 (kq ≤ k) ∧ Drawn0 w wc)
  case first =>
    have H := HC3.out
    clear HC3
    by_cases c4 : (fcmp .neq .f64 a0 a0) = true
    · rw [if_pos c4] at H
      have c4b0 : (fcmp .neq .f64 a0 a0) = true := c4
      clear c4
      (first | rw [c4b0] | (simp only [i64_w, i32_w]; rw [c4b0]) | skip)
      have H' := Aside0.mk H
      clear H
      go_wp2
      go_meet
      case rel => exact ⟨_, (true), (by first | rfl | (simp; done) | (simp [*]; done)), H', ⟨by first | omega | exact Nat.le_refl _⟩, by repeat (first | exact Drawn0.refl _ | apply Drawn0.step)⟩
    · rw [if_neg c4] at H
      have c4b0 : (fcmp .neq .f64 a0 a0) = false := by simpa using c4
      clear c4
      (first | rw [c4b0] | (simp only [i64_w, i32_w]; rw [c4b0]) | skip)
      have H' := Aside0.mk H
      clear H
      go_wp2
      go_meet
      case rel => exact ⟨_, ((fcmp .neq .f64 a1 a1)), (by first | rfl | (simp; done) | (simp [*]; done)), H', ⟨by first | omega | exact Nat.le_refl _⟩, by repeat (first | exact Drawn0.refl _ | apply Drawn0.step)⟩
  case rest =>
    clear HC3
    try clear c1
    try clear p2
    try clear c4
    try clear c4b0
    obtain ⟨kq, x12_2, rfl, HA, HJ2, ⟨mc2, rfl⟩⟩ := hcut
    cases kq with
    | zero => exact absurd HA.out (by simp [laws_sameFloat.j0])
    | succ kj2 =>
      have H := HA.out
      clear HA
      simp only [laws_sameFloat.j0] at H
      by_cases c5 : x12_2 = true
      · subst c5
        have H1 : (if (fcmp .neq .f64 a0 a0) = true then (some (fcmp .neq .f64 a1 a1)) else (some false)) = some r := by rw [if_pos rfl] at H; exact H
        clear H
        have H := H1
        clear H1
        by_cases c6 : (fcmp .neq .f64 a0 a0) = true
        · rw [if_pos c6] at H
          have c6b0 : (fcmp .neq .f64 a0 a0) = true := c6
          clear c6
          obtain rfl := Option.some.inj H
          go_wp2
          go_ret
          exact ⟨by first | rfl | (simp; done) | (simp [*]; done), by repeat (first | exact Drawn0.refl _ | apply Drawn0.step)⟩
        · rw [if_neg c6] at H
          have c6b0 : (fcmp .neq .f64 a0 a0) = false := by simpa using c6
          clear c6
          obtain rfl := Option.some.inj H
          go_wp2
          go_ret
          exact ⟨by first | rfl | (simp; done) | (simp [*]; done), by repeat (first | exact Drawn0.refl _ | apply Drawn0.step)⟩
      · replace c5 := Bool.eq_false_iff.mpr c5
        subst c5
        have H1 : (if (fcmp .eql .f64 a0 (cn .f64 0)) = true then (if (fcmp .eql .f64 a1 (cn .f64 0)) = true then (some ((fcmp .gtr .f64 (fop .quo .f64 (cn .f64 4607182418800017408) a0) (cn .f64 0)) == (fcmp .gtr .f64 (fop .quo .f64 (cn .f64 4607182418800017408) a1) (cn .f64 0)))) else (some (fcmp .eql .f64 a0 a1))) else (some (fcmp .eql .f64 a0 a1))) = some r := by rw [if_neg (show ¬ (false = true) by decide)] at H; exact H
        clear H
        have H := H1
        clear H1
        by_cases c7 : (fcmp .eql .f64 a0 (cn .f64 0)) = true
        · rw [if_pos c7] at H
          have c7b0 : (fcmp .eql .f64 a0 (cn .f64 0)) = true := c7
          clear c7
          by_cases c8 : (fcmp .eql .f64 a1 (cn .f64 0)) = true
          · rw [if_pos c8] at H
            have c8b0 : (fcmp .eql .f64 a1 (cn .f64 0)) = true := c8
            clear c8
            obtain ⟨ft106, hft106⟩ : ∃ y_ : Fl, y_ = (fop .quo .f64 (cn .f64 4607182418800017408) a0) := ⟨_, rfl⟩
            replace H : (some ((fcmp .gtr .f64 ft106 (cn .f64 0)) == (fcmp .gtr .f64 (fop .quo .f64 (cn .f64 4607182418800017408) a1) (cn .f64 0)))) = some r := by first | (rw [hft106]; with_reducible exact H) | (have H2_ := (Option.bind_some _ _).symm.trans H; rw [hft106]; with_reducible exact H2_) | (have H2_ := (Option.bind_some _ _).symm.trans H; with_reducible exact H2_) | with_reducible exact H | (rw [hft106]; exact H) | exact H
            have Nft106 := Aside0.mk hft106
            clear hft106
            obtain ⟨ft107, hft107⟩ : ∃ y_ : Fl, y_ = (fop .quo .f64 (cn .f64 4607182418800017408) a1) := ⟨_, rfl⟩
            replace H : (some ((fcmp .gtr .f64 ft106 (cn .f64 0)) == (fcmp .gtr .f64 ft107 (cn .f64 0)))) = some r := by first | (rw [hft107]; with_reducible exact H) | (have H2_ := (Option.bind_some _ _).symm.trans H; rw [hft107]; with_reducible exact H2_) | (have H2_ := (Option.bind_some _ _).symm.trans H; with_reducible exact H2_) | with_reducible exact H | (rw [hft107]; exact H) | exact H
            have Nft107 := Aside0.mk hft107
            clear hft107
            obtain rfl := Option.some.inj H
            go_wp2_with (first | ((with_reducible refine gate_dst (N := 28) rfl ?_); refine fop_event rfl (N := 28) rfl (op := .quo) (by simp) rfl .f64 4607182418800017408 b_a0 (cn .f64 4607182418800017408) a0 rfl rfl rfl hF_a0 ?_; intro b_ft106 nf_ hF_; replace hF_ := hF_.trans Nft106.out.symm; have hF_ft106 := hF_; clear hF_) | ((with_reducible refine gate_dst (N := 31) rfl ?_); refine fop_event rfl (N := 31) rfl (op := .quo) (by simp) rfl .f64 4607182418800017408 b_a1 (cn .f64 4607182418800017408) a1 rfl rfl rfl hF_a1 ?_; intro b_ft107 nf_ hF_; replace hF_ := hF_.trans Nft107.out.symm; have hF_ft107 := hF_; clear hF_))
            go_ret
            exact ⟨by first | rfl | (simp; done) | (simp [*]; done), by repeat (first | exact Drawn0.refl _ | apply Drawn0.step)⟩
          · rw [if_neg c8] at H
            have c8b0 : (fcmp .eql .f64 a1 (cn .f64 0)) = false := by simpa using c8
            clear c8
            obtain rfl := Option.some.inj H
            go_wp2
            go_ret
            exact ⟨by first | rfl | (simp; done) | (simp [*]; done), by repeat (first | exact Drawn0.refl _ | apply Drawn0.step)⟩
        · rw [if_neg c7] at H
          have c7b0 : (fcmp .eql .f64 a0 (cn .f64 0)) = false := by simpa using c7
          clear c7
          obtain rfl := Option.some.inj H
          go_wp2
          go_ret
          exact ⟨by first | rfl | (simp; done) | (simp [*]; done), by repeat (first | exact Drawn0.refl _ | apply Drawn0.step)⟩

/-! ### laws_eqFloat64S: function 18 -/
def laws_eqFloat64S.l0 : Nat → List (Fl) → List (Fl) → Int → Option (Bool)
  | 0, _, _, _ => none
  | k + 1, x0, x1, x5 => if x5 < (x0.length : Int) then (if 0 ≤ x5 then (if x5 < (x1.length : Int) then ((laws_sameFloat.f k (rdf .f64 x0 x5) (rdf .f64 x1 x5)).bind fun t110 => (if t110 = true then (laws_eqFloat64S.l0 k x0 x1 (wrap64 (x5 + 1))) else (some false))) else (none)) else (none)) else (some true)
def laws_eqFloat64S.f (k : Nat) (l0 : List (Fl)) (l1 : List (Fl)) : Option (Bool) := if (l0.length : Int) = (l1.length : Int) then (laws_eqFloat64S.l0 k l0 l1 0) else (some false)
theorem laws_eqFloat64S.mono_l : ∀ k, (∀ y0 y1 y2, LeO (laws_eqFloat64S.l0 k y0 y1 y2) (laws_eqFloat64S.l0 (k + 1) y0 y1 y2))
  | 0 => fun _ _ _ r h => by simp [laws_eqFloat64S.l0] at h
  | k + 1 => by
    have ih0 := laws_eqFloat64S.mono_l k
    · intro y0 y1 y2
      unfold laws_eqFloat64S.l0
      repeat' first
      | (with_reducible exact ih0 _ _ _)
      | (with_reducible exact laws_sameFloat.mono _ _ _)
      | (with_reducible exact LeO.refl _)
      | (with_reducible exact LeO.none _)
      | (with_reducible refine LeO.ite ?_ ?_)
      | (with_reducible refine LeO.bind ?_ (fun _ => ?_))
      | exact ih0 _ _ _
      | exact laws_sameFloat.mono _ _ _
      | exact LeO.none _
      | refine LeO.ite ?_ ?_
      | refine LeO.bind ?_ (fun _ => ?_)
theorem laws_eqFloat64S.mono : ∀ a0 a1 k, LeO (laws_eqFloat64S.f k a0 a1) (laws_eqFloat64S.f (k + 1) a0 a1) := by
  intro a0 a1 k
  have ih0 := laws_eqFloat64S.mono_l k
  unfold laws_eqFloat64S.f
  repeat' first
      | (with_reducible exact ih0 _ _ _)
      | (with_reducible exact laws_sameFloat.mono _ _ _)
      | (with_reducible exact LeO.refl _)
      | (with_reducible exact LeO.none _)
      | (with_reducible refine LeO.ite ?_ ?_)
      | (with_reducible refine LeO.bind ?_ (fun _ => ?_))
      | exact ih0 _ _ _
      | exact laws_sameFloat.mono _ _ _
      | exact LeO.none _
      | refine LeO.ite ?_ ?_
      | refine LeO.bind ?_ (fun _ => ?_)
set_option maxHeartbeats 8000000 in
set_option maxRecDepth 100000 in
theorem laws_eqFloat64S.calls (k : Nat) (A0 : Option Addr) (c0 : Nat) (l0 : List (Fl)) (A1 : Option Addr) (c1 : Nat) (l1 : List (Fl)) (r : Bool) (w : World) (hr0 : Kd.C (Kd.fl .f64) w A0 l0.length l0) (hc0 : l0.length ≤ c0) (hr1 : Kd.C (Kd.fl .f64) w A1 l1.length l1) (hc1 : l1.length ≤ c1) (h : laws_eqFloat64S.f k l0 l1 = some r) :
    Calls Try.prog 18 #[.slice A0 l0.length c0, .slice A1 l1.length c1] w fun e w' => e = .returned (.bool r) ∧ Drawn0 w w' := by
  have HR0 := Aside0.mk hr0
  have HC0 := Aside0.mk hc0
  clear hr0 hc0
  have HR1 := Aside0.mk hr1
  have HC1 := Aside0.mk hc1
  clear hr1 hc1
  have H : (if (l0.length : Int) = (l1.length : Int) then (laws_eqFloat64S.l0 k l0 l1 0) else (some false)) = some r := h
  clear h
  by_cases c3 : (l0.length : Int) = (l1.length : Int)
  · rw [if_pos c3] at H
    have c3b0 : ((l0.length : Int) == (l1.length : Int)) = true := beq_iff_eq.mpr c3
    have c3b1 : ((l0.length : Int) != (l1.length : Int)) = false := bne_eq_false_iff_eq.mpr c3
    have c3b2 : (l0.length == l1.length) = true := by first | simpa using c3 | (simp at c3 ⊢; omega)
    clear c3
    have H' := Aside0.mk H
    clear H
    go_enter Try.func18, Try.ntmps18
    go_wp2
    repeat (go_quiet (fail); try go_wp2)
    go_loopg [5] k (fun kq v5 w' => ∃ (x5_1 : Int), v5 = .int .i64 x5_1 ∧ Aside0 (laws_eqFloat64S.l0 kq l0 l1 x5_1 = some r) ∧ Aside0 (kq ≤ k) ∧ Drawn0 w w')
    case atStart => exact ⟨(0), (by first | rfl | (simp; done) | (simp [*]; done)), H', ⟨Nat.le_refl _⟩, by repeat (first | exact Drawn0.refl _ | apply Drawn0.step)⟩
    case round =>
      clear H'
      try clear c1
      try clear p2
      try clear c3
      try clear c3b0
      try clear c3b1
      try clear c3b2
      obtain ⟨x5_1, rfl, HA, HK1, ⟨m1, rfl⟩⟩ := hrel
      cases gk with
      | zero => exact absurd HA.out (by simp [laws_eqFloat64S.l0])
      | succ k1 =>
        have H := HA.out
        clear HA
        simp only [laws_eqFloat64S.l0] at H
        by_cases c4 : x5_1 < (l0.length : Int)
        · rw [if_pos c4] at H
          have c4b0 : decide (x5_1 < (l0.length : Int)) = true := decide_eq_true c4
          clear c4
          by_cases c5 : 0 ≤ x5_1
          · rw [if_pos c5] at H
            have c5b0 : decide (0 ≤ x5_1) = true := decide_eq_true c5
            clear c5
            obtain ⟨fr108_0, hfr108_0⟩ : ∃ y_ : Fl, y_ = (rdf .f64 l0 x5_1) := ⟨_, rfl⟩
            replace H : (if x5_1 < (l1.length : Int) then ((laws_sameFloat.f k1 fr108_0 (rdf .f64 l1 x5_1)).bind fun t110 => (if t110 = true then (laws_eqFloat64S.l0 k1 l0 l1 (wrap64 (x5_1 + 1))) else (some false))) else (none)) = some r := by first | (rw [hfr108_0]; with_reducible exact H) | (have H2_ := (Option.bind_some _ _).symm.trans H; rw [hfr108_0]; with_reducible exact H2_) | (have H2_ := (Option.bind_some _ _).symm.trans H; with_reducible exact H2_) | with_reducible exact H | (rw [hfr108_0]; exact H) | exact H
            have Nfr108_0 := Aside0.mk hfr108_0
            clear hfr108_0
            by_cases c6 : x5_1 < (l1.length : Int)
            · rw [if_pos c6] at H
              have c6b0 : decide (x5_1 < (l1.length : Int)) = true := decide_eq_true c6
              clear c6
              obtain ⟨fr109_0, hfr109_0⟩ : ∃ y_ : Fl, y_ = (rdf .f64 l1 x5_1) := ⟨_, rfl⟩
              replace H : ((laws_sameFloat.f k1 fr108_0 fr109_0).bind fun t110 => (if t110 = true then (laws_eqFloat64S.l0 k1 l0 l1 (wrap64 (x5_1 + 1))) else (some false))) = some r := by first | (rw [hfr109_0]; with_reducible exact H) | (have H2_ := (Option.bind_some _ _).symm.trans H; rw [hfr109_0]; with_reducible exact H2_) | (have H2_ := (Option.bind_some _ _).symm.trans H; with_reducible exact H2_) | with_reducible exact H | (rw [hfr109_0]; exact H) | exact H
              have Nfr109_0 := Aside0.mk hfr109_0
              clear hfr109_0
              replace H := Option.bind_eq_some_iff.mp H
              obtain ⟨t110, A70, H⟩ := H
              replace H : (if t110 = true then (laws_eqFloat64S.l0 k1 l0 l1 (wrap64 (x5_1 + 1))) else (some false)) = some r := H
              have A7 := Aside0.mk A70
              clear A70
              by_cases c8 : t110 = true
              · subst c8
                have H1 : (laws_eqFloat64S.l0 k1 l0 l1 (wrap64 (x5_1 + 1))) = some r := by rw [if_pos rfl] at H; exact H
                clear H
                have H := H1
                clear H1
                have H' := Aside0.mk H
                clear H
                have p108 : 0 ≤ (x5_1 : Int) := of_decide_eq_true (by first | (with_reducible assumption) | assumption)
                have q108 : x5_1 < (l0.length : Int) := of_decide_eq_true (by first | (with_reducible assumption) | assumption)
                obtain ⟨ad108, b_fr108_0, e108, hx108_0, hF108_0⟩ := Kd.at_fl HR0.out x5_1 p108 q108
                have hF_fr108_0 := hF108_0.trans Nfr108_0.out.symm
                clear hF108_0
                cases e108
                replace p108 := eq_true p108
                replace q108 := eq_true q108
                have p109 : 0 ≤ (x5_1 : Int) := of_decide_eq_true (by first | (with_reducible assumption) | assumption)
                have q109 : x5_1 < (l1.length : Int) := of_decide_eq_true (by first | (with_reducible assumption) | assumption)
                obtain ⟨ad109, b_fr109_0, e109, hx109_0, hF109_0⟩ := Kd.at_fl HR1.out x5_1 p109 q109
                have hF_fr109_0 := hF109_0.trans Nfr109_0.out.symm
                clear hF109_0
                cases e109
                replace p109 := eq_true p109
                replace q109 := eq_true q109
                go_wp2_with (first | (go_at_call 17; (with_reducible refine (laws_sameFloat.calls k1 b_fr108_0 fr108_0 b_fr109_0 fr109_0 true _ ?side1 ?side2 A7.out).mono ?_); (case side1 => exact hF_fr108_0); (case side2 => exact hF_fr109_0); rintro e w' ⟨rfl, ⟨nd, rfl⟩⟩; (try first | exact ⟨rfl, _, World.drewN_drewN _ _ _⟩ | exact ⟨rfl, _, Eq.trans (World.drewN_drewN _ _ _) (congrArg (World.drewN _) (Nat.add_assoc _ _ _))⟩)))
                repeat (go_quiet (first | (go_at_call 17; (with_reducible refine (laws_sameFloat.calls k1 b_fr108_0 fr108_0 b_fr109_0 fr109_0 true _ ?side1 ?side2 A7.out).mono ?_); (case side1 => exact hF_fr108_0); (case side2 => exact hF_fr109_0); rintro e w' ⟨rfl, ⟨nd, rfl⟩⟩; (try first | exact ⟨rfl, _, World.drewN_drewN _ _ _⟩ | exact ⟨rfl, _, Eq.trans (World.drewN_drewN _ _ _) (congrArg (World.drewN _) (Nat.add_assoc _ _ _))⟩))); try go_wp2_with (first | (go_at_call 17; (with_reducible refine (laws_sameFloat.calls k1 b_fr108_0 fr108_0 b_fr109_0 fr109_0 true _ ?side1 ?side2 A7.out).mono ?_); (case side1 => exact hF_fr108_0); (case side2 => exact hF_fr109_0); rintro e w' ⟨rfl, ⟨nd, rfl⟩⟩; (try first | exact ⟨rfl, _, World.drewN_drewN _ _ _⟩ | exact ⟨rfl, _, Eq.trans (World.drewN_drewN _ _ _) (congrArg (World.drewN _) (Nat.add_assoc _ _ _))⟩))))
                go_roundg k1
                case measure => have := HK1.out; omega
                case rel => exact ⟨(wrap64 (x5_1 + 1)), (by first | rfl | (simp; done) | (simp [*]; done)), H', ⟨by have := HK1.out; omega⟩, by repeat (first | exact Drawn0.refl _ | apply Drawn0.step)⟩
              · replace c8 := Bool.eq_false_iff.mpr c8
                subst c8
                have H1 : (some false) = some r := by rw [if_neg (show ¬ (false = true) by decide)] at H; exact H
                clear H
                have H := H1
                clear H1
                obtain rfl := Option.some.inj H
                have p108 : 0 ≤ (x5_1 : Int) := of_decide_eq_true (by first | (with_reducible assumption) | assumption)
                have q108 : x5_1 < (l0.length : Int) := of_decide_eq_true (by first | (with_reducible assumption) | assumption)
                obtain ⟨ad108, b_fr108_0, e108, hx108_0, hF108_0⟩ := Kd.at_fl HR0.out x5_1 p108 q108
                have hF_fr108_0 := hF108_0.trans Nfr108_0.out.symm
                clear hF108_0
                cases e108
                replace p108 := eq_true p108
                replace q108 := eq_true q108
                have p109 : 0 ≤ (x5_1 : Int) := of_decide_eq_true (by first | (with_reducible assumption) | assumption)
                have q109 : x5_1 < (l1.length : Int) := of_decide_eq_true (by first | (with_reducible assumption) | assumption)
                obtain ⟨ad109, b_fr109_0, e109, hx109_0, hF109_0⟩ := Kd.at_fl HR1.out x5_1 p109 q109
                have hF_fr109_0 := hF109_0.trans Nfr109_0.out.symm
                clear hF109_0
                cases e109
                replace p109 := eq_true p109
                replace q109 := eq_true q109
                go_wp2_with (first | (go_at_call 17; (with_reducible refine (laws_sameFloat.calls k1 b_fr108_0 fr108_0 b_fr109_0 fr109_0 false _ ?side1 ?side2 A7.out).mono ?_); (case side1 => exact hF_fr108_0); (case side2 => exact hF_fr109_0); rintro e w' ⟨rfl, ⟨nd, rfl⟩⟩; (try first | exact ⟨rfl, _, World.drewN_drewN _ _ _⟩ | exact ⟨rfl, _, Eq.trans (World.drewN_drewN _ _ _) (congrArg (World.drewN _) (Nat.add_assoc _ _ _))⟩)))
                repeat (go_quiet (first | (go_at_call 17; (with_reducible refine (laws_sameFloat.calls k1 b_fr108_0 fr108_0 b_fr109_0 fr109_0 false _ ?side1 ?side2 A7.out).mono ?_); (case side1 => exact hF_fr108_0); (case side2 => exact hF_fr109_0); rintro e w' ⟨rfl, ⟨nd, rfl⟩⟩; (try first | exact ⟨rfl, _, World.drewN_drewN _ _ _⟩ | exact ⟨rfl, _, Eq.trans (World.drewN_drewN _ _ _) (congrArg (World.drewN _) (Nat.add_assoc _ _ _))⟩))); try go_wp2_with (first | (go_at_call 17; (with_reducible refine (laws_sameFloat.calls k1 b_fr108_0 fr108_0 b_fr109_0 fr109_0 false _ ?side1 ?side2 A7.out).mono ?_); (case side1 => exact hF_fr108_0); (case side2 => exact hF_fr109_0); rintro e w' ⟨rfl, ⟨nd, rfl⟩⟩; (try first | exact ⟨rfl, _, World.drewN_drewN _ _ _⟩ | exact ⟨rfl, _, Eq.trans (World.drewN_drewN _ _ _) (congrArg (World.drewN _) (Nat.add_assoc _ _ _))⟩))))
                go_ret
                exact ⟨by first | rfl | (simp; done) | (simp [*]; done), by repeat (first | exact Drawn0.refl _ | apply Drawn0.step)⟩
            · rw [if_neg c6] at H
              exact absurd H (by simp)
          · rw [if_neg c5] at H
            exact absurd H (by simp)
        · rw [if_neg c4] at H
          have c4b0 : decide (x5_1 < (l0.length : Int)) = false := decide_eq_false c4
          clear c4
          obtain rfl := Option.some.inj H
          go_wp2
          repeat (go_quiet (fail); try go_wp2)
          go_ret
          exact ⟨by first | rfl | (simp; done) | (simp [*]; done), by repeat (first | exact Drawn0.refl _ | apply Drawn0.step)⟩
  · rw [if_neg c3] at H
    have c3b0 : ((l0.length : Int) == (l1.length : Int)) = false := beq_eq_false_iff_ne.mpr c3
    have c3b1 : ((l0.length : Int) != (l1.length : Int)) = true := bne_iff_ne.mpr c3
    have c3b2 : (l0.length == l1.length) = false := by first | simpa using c3 | (simp at c3 ⊢; omega)
    obtain rfl := Option.some.inj H
    go_enter Try.func18, Try.ntmps18
    go_wp2
    repeat (go_quiet (fail); try go_wp2)
    go_ret
    exact ⟨by first | rfl | (simp; done) | (simp [*]; done), by repeat (first | exact Drawn0.refl _ | apply Drawn0.step)⟩

/-! ### spec_l5NaN: function 74 -/
def spec_l5NaN.f (a0 : Fl) : Option (Fl) := some (fop .quo .f64 a0 a0)
set_option maxHeartbeats 8000000 in
set_option maxRecDepth 100000 in
theorem spec_l5NaN.calls (b_a0 : Nat) (a0 : Fl) (r : Fl) (w : World) (hF_a0 : cn .f64 b_a0 = a0) (h : spec_l5NaN.f a0 = some r) :
    Calls Try.prog 74 #[.float .f64 b_a0] w fun e w' => ∃ b_r : Nat, e = .returned (.float .f64 b_r) ∧ cn .f64 b_r = r ∧ Drawn0 w w' := by
  have H : (some (fop .quo .f64 a0 a0)) = some r := h
  clear h
  obtain ⟨ft111, hft111⟩ : ∃ y_ : Fl, y_ = (fop .quo .f64 a0 a0) := ⟨_, rfl⟩
  replace H : (some ft111) = some r := by first | (rw [hft111]; with_reducible exact H) | (have H2_ := (Option.bind_some _ _).symm.trans H; rw [hft111]; with_reducible exact H2_) | (have H2_ := (Option.bind_some _ _).symm.trans H; with_reducible exact H2_) | with_reducible exact H | (rw [hft111]; exact H) | exact H
  have Nft111 := Aside0.mk hft111
  clear hft111
  obtain rfl := Option.some.inj H
  go_enter Try.func74, Try.ntmps74
  go_wp2_with (first | ((with_reducible refine gate_dst (N := 5) rfl ?_); refine fop_event rfl (N := 5) rfl (op := .quo) (by simp) rfl .f64 b_a0 b_a0 a0 a0 rfl rfl hF_a0 hF_a0 ?_; intro b_ft111 nf_ hF_; replace hF_ := hF_.trans Nft111.out.symm; have hF_ft111 := hF_; clear hF_))
  go_ret
  exact ⟨b_ft111, by first | rfl | (simp; done) | (simp [*]; done), hF_ft111, by repeat (first | exact Drawn0.refl _ | apply Drawn0.step)⟩

/-! ### spec_Smooth: function 33 -/
def spec_Smooth.l0 : Nat → List (Fl) → Fl → List (Fl) → Bool → Fl → Fl → Int → Option ((List (Fl)) × Bool)
  | 0, _, _, _, _, _, _, _ => none
  | k + 1, x0, x1, x6, x7, x8, x9, x10 => if x10 < (x0.length : Int) then (if 0 ≤ x10 then ((some (rdf .f64 x0 x10 : Fl)).bind fun fr116_0 => (if (fcmp .eql .f64 fr116_0 fr116_0) = true then (if x7 = true then ((some (fop .add .f64 x8 (fop .mul .f64 (fop .sub .f64 fr116_0 x8) x1) : Fl)).bind fun ft119 => (if x6.length < 17592186044416 then (spec_Smooth.l0 k x0 x1 (x6 ++ [ft119]) x7 ft119 x9 (wrap64 (x10 + 1))) else (none))) else ((some (fop .add .f64 fr116_0 (fop .mul .f64 (fop .sub .f64 fr116_0 fr116_0) x1) : Fl)).bind fun ft125 => (if x6.length < 17592186044416 then (spec_Smooth.l0 k x0 x1 (x6 ++ [ft125]) true ft125 x9 (wrap64 (x10 + 1))) else (none)))) else (if x7 = true then (if x6.length < 17592186044416 then (spec_Smooth.l0 k x0 x1 (x6 ++ [x8]) x7 x8 x9 (wrap64 (x10 + 1))) else (none)) else (if x6.length < 17592186044416 then (spec_Smooth.l0 k x0 x1 (x6 ++ [x9]) x7 x8 x9 (wrap64 (x10 + 1))) else (none))))) else (none)) else (some (x6, true))
def spec_Smooth.f (k : Nat) (l0 : List (Fl)) (a1 : Fl) : Option ((List (Fl)) × Bool) := (some (([] : List (Fl)) : List (Fl))).bind fun y112 => (if (l0.length : Int) > 60 then (some (y112, false)) else ((spec_l5NaN.f (cn .f64 0)).bind fun t115 => (spec_Smooth.l0 k l0 a1 y112 false (cn .f64 0) t115 0)))
theorem spec_Smooth.mono_l : ∀ k, (∀ y0 y1 y2 y3 y4 y5 y6, LeO (spec_Smooth.l0 k y0 y1 y2 y3 y4 y5 y6) (spec_Smooth.l0 (k + 1) y0 y1 y2 y3 y4 y5 y6))
  | 0 => fun _ _ _ _ _ _ _ r h => by simp [spec_Smooth.l0] at h
  | k + 1 => by
    have ih0 := spec_Smooth.mono_l k
    · intro y0 y1 y2 y3 y4 y5 y6
      unfold spec_Smooth.l0
      repeat' first
      | (with_reducible exact ih0 _ _ _ _ _ _ _)
      | (with_reducible exact LeO.refl _)
      | (with_reducible exact LeO.none _)
      | (with_reducible refine LeO.ite ?_ ?_)
      | (with_reducible refine LeO.bind ?_ (fun _ => ?_))
      | exact ih0 _ _ _ _ _ _ _
      | exact LeO.none _
      | refine LeO.ite ?_ ?_
      | refine LeO.bind ?_ (fun _ => ?_)
theorem spec_Smooth.mono : ∀ a0 a1 k, LeO (spec_Smooth.f k a0 a1) (spec_Smooth.f (k + 1) a0 a1) := by
  intro a0 a1 k
  have ih0 := spec_Smooth.mono_l k
  unfold spec_Smooth.f
  repeat' first
      | (with_reducible exact ih0 _ _ _ _ _ _ _)
      | (with_reducible exact LeO.refl _)
      | (with_reducible exact LeO.none _)
      | (with_reducible refine LeO.ite ?_ ?_)
      | (with_reducible refine LeO.bind ?_ (fun _ => ?_))
      | exact ih0 _ _ _ _ _ _ _
      | exact LeO.none _
      | refine LeO.ite ?_ ?_
      | refine LeO.bind ?_ (fun _ => ?_)
set_option maxHeartbeats 8000000 in
set_option maxRecDepth 100000 in
theorem spec_Smooth.calls (k : Nat) (A0 : Option Addr) (c0 : Nat) (l0 : List (Fl)) (b_a1 : Nat) (a1 : Fl) (r1 : List (Fl)) (r2 : Bool) (w : World) (hr0 : Kd.C (Kd.fl .f64) w A0 l0.length l0) (hc0 : l0.length ≤ c0) (hF_a1 : cn .f64 b_a1 = a1) (h : spec_Smooth.f k l0 a1 = some (r1, r2)) :
    Calls Try.prog 33 #[.slice A0 l0.length c0, .float .f64 b_a1] w fun e w' => ∃ v0_ : Value, e = .returned (.tuple #[v0_, .bool r2]) ∧ Kd.R (Kd.fl .f64) 23 w' w.heap.size (fun _ => True) v0_ r1 ∧ Below w.heap.size w w' := by
  have HR0 := Aside0.mk hr0
  have HC0 := Aside0.mk hc0
  clear hr0 hc0
  have HB := Aside0.mk (Below.refl w.heap.size w)
  have H : ((some (([] : List (Fl)) : List (Fl))).bind fun y112 => (if (l0.length : Int) > 60 then (some (y112, false)) else ((spec_l5NaN.f (cn .f64 0)).bind fun t115 => (spec_Smooth.l0 k l0 a1 y112 false (cn .f64 0) t115 0)))) = some (r1, r2) := h
  clear h
  obtain ⟨y112, hy112⟩ : ∃ y_ : List (Fl), y_ = (([] : List (Fl))) := ⟨_, rfl⟩
  replace H : (if (l0.length : Int) > 60 then (some (y112, false)) else ((spec_l5NaN.f (cn .f64 0)).bind fun t115 => (spec_Smooth.l0 k l0 a1 y112 false (cn .f64 0) t115 0))) = some (r1, r2) := by first | (rw [hy112]; with_reducible exact H) | (have H2_ := (Option.bind_some _ _).symm.trans H; rw [hy112]; with_reducible exact H2_) | (have H2_ := (Option.bind_some _ _).symm.trans H; with_reducible exact H2_) | with_reducible exact H | (rw [hy112]; exact H) | exact H
  have Ny112 := Aside0.mk hy112
  clear hy112
  by_cases c3 : (l0.length : Int) > 60
  · rw [if_pos c3] at H
    have c3b0 : decide (60 < (l0.length : Int)) = true := decide_eq_true c3
    have c3b1 : decide (60 < l0.length) = true := decide_eq_true (by omega)
    clear c3
    simp only [Option.some.injEq, Prod.mk.injEq] at H
    obtain ⟨rfl, rfl⟩ := H
    go_enter Try.func33, Try.ntmps33
    go_wp2_with (first | ((with_reducible refine gate_dst (N := 13) rfl ?_); refine Kd.R_lit (Kd.fl .f64) _ 23 ?hg (N := 13) ?hd (xs := ([] : List (Fl))) (inner := []) (ok := fun _ => True) (okp := fun _ => True) ?hr ?hp (fun _ hk => hk) trivial (Below.refl _ _) (Nat.le_refl _) (by simp) ?_; (case hd => rfl); (case hg => rfl); (case hr => first | (go_simp; done) | (go_simp; rfl)); (case hp => exact (Reps.none _ _)); intro v113 w4 ho5 hb hg_ hnew_; clear hg_ hnew_; (first | rw [← Ny112.out] at ho5 | (simp only [Int.reduceToNat] at ho5; rw [← Ny112.out] at ho5)); have n0_ := Aside0.mk (Kd.R_lower ho5 (below_size (by exact HB.out))); have n1_ := Aside0.mk (below_step (by exact HB.out) hb); clear HB; have HO114 := n0_; have HB := n1_; clear n0_ n1_; clear hb ho5))
    go_ret2
    exact ⟨_, by first | rfl | (simp [errW_none, errW_some] <;> rfl) | (simp [*, errW_none, errW_some] <;> rfl), by (with_reducible repeat (first | apply Kd.R_alloc | apply Kd.R_drewN | apply Kd.R_drew)); exact HO114.out, by repeat (first | (with_reducible first | exact HB.out | apply below_alloc | apply pw_below_drewN | apply below_drew1) | exact HB.out)⟩
  · rw [if_neg c3] at H
    have c3b0 : decide (60 < (l0.length : Int)) = false := decide_eq_false c3
    have c3b1 : decide (60 < l0.length) = false := decide_eq_false (by omega)
    clear c3
    replace H := Option.bind_eq_some_iff.mp H
    obtain ⟨t115, A60, H⟩ := H
    replace H : (spec_Smooth.l0 k l0 a1 y112 false (cn .f64 0) t115 0) = some (r1, r2) := H
    have A6 := Aside0.mk A60
    clear A60
    have H' := Aside0.mk H
    clear H
    go_enter Try.func33, Try.ntmps33
    go_wp2_with (first | ((with_reducible refine gate_dst (N := 13) rfl ?_); refine Kd.R_lit (Kd.fl .f64) _ 23 ?hg (N := 13) ?hd (xs := ([] : List (Fl))) (inner := []) (ok := fun _ => True) (okp := fun _ => True) ?hr ?hp (fun _ hk => hk) trivial (Below.refl _ _) (Nat.le_refl _) (by simp) ?_; (case hd => rfl); (case hg => rfl); (case hr => first | (go_simp; done) | (go_simp; rfl)); (case hp => exact (Reps.none _ _)); intro v113 w7 ho8 hb hg_ hnew_; clear hg_ hnew_; (first | rw [← Ny112.out] at ho8 | (simp only [Int.reduceToNat] at ho8; rw [← Ny112.out] at ho8)); have n0_ := Aside0.mk (Kd.R_lower ho8 (below_size (by exact HB.out))); have n1_ := Aside0.mk (below_step (by exact HB.out) hb); clear HB; have HO114 := n0_; have HB := n1_; clear n0_ n1_; clear hb ho8) | ((with_reducible refine gate_callee (f := 74) rfl ?_); refine goesL_ (some 19) rfl rfl Try.func74 (by kernel_rfl) rfl #[.float .f64 0] rfl (by (try simp only [List.map_toArray, List.map_cons, List.map_nil]); first | done | rfl | (simp only [List.length_drop, List.length_take]; rfl)) ?_; (with_reducible refine (spec_l5NaN.calls 0 (cn .f64 0) t115 _ ?side1 A6.out).mono ?_); (case side1 => exact rfl); rintro e w' ⟨b_t115, rfl, hF_t115, ⟨nd, rfl⟩⟩; refine ⟨_, rfl, ?_⟩))
    go_loopg [6, 7, 8, 10] k (fun kq v6 v7 v8 v10 w' => ∃ (x6_1 : List (Fl)) (x7_1 : Bool) (x8_1 : Fl) (x10_1 : Int) (b_x8_1 : Nat), v7 = .bool x7_1 ∧ v8 = .float .f64 b_x8_1 ∧ v10 = .int .i64 x10_1 ∧ Aside0 (spec_Smooth.l0 kq l0 a1 x6_1 x7_1 x8_1 t115 x10_1 = some (r1, r2)) ∧ Aside0 (kq ≤ k) ∧ Aside0 (cn .f64 b_x8_1 = x8_1) ∧ Aside0 (Kd.R (Kd.fl .f64) 23 w' w.heap.size (fun _ => True) v6 x6_1) ∧ Aside0 (Below w.heap.size w w'))
    case atStart => exact ⟨(y112), (false), ((cn .f64 0)), (0), 0, (by first | rfl | (simp; done) | (simp [*]; done)), (by first | rfl | (simp; done) | (simp [*]; done)), (by first | rfl | (simp; done) | (simp [*]; done)), H', ⟨Nat.le_refl _⟩, ⟨rfl⟩, ⟨by (with_reducible repeat (first | apply Kd.R_alloc | apply Kd.R_drewN | apply Kd.R_drew)); exact HO114.out⟩, ⟨by repeat (first | (with_reducible first | exact HB.out | apply below_alloc | apply pw_below_drewN | apply below_drew1) | exact HB.out)⟩⟩
    case round =>
      clear H'
      try clear p2
      try clear c3
      try clear c3b0
      try clear c3b1
      try clear c6
      try clear c7
      obtain ⟨x6_1, x7_1, x8_1, x10_1, b_x8_1, rfl, rfl, rfl, HA, HK1, ⟨hF_x8_1⟩, HO_6, HB⟩ := hrel
      cases gk with
      | zero => exact absurd HA.out (by simp [spec_Smooth.l0])
      | succ k1 =>
        have H := HA.out
        clear HA
        simp only [spec_Smooth.l0] at H
        by_cases c9 : x10_1 < (l0.length : Int)
        · rw [if_pos c9] at H
          have c9b0 : decide (x10_1 < (l0.length : Int)) = true := decide_eq_true c9
          clear c9
          by_cases c10 : 0 ≤ x10_1
          · rw [if_pos c10] at H
            have c10b0 : decide (0 ≤ x10_1) = true := decide_eq_true c10
            clear c10
            obtain ⟨fr116_0, hfr116_0⟩ : ∃ y_ : Fl, y_ = (rdf .f64 l0 x10_1) := ⟨_, rfl⟩
            replace H : (if (fcmp .eql .f64 fr116_0 fr116_0) = true then (if x7_1 = true then ((some (fop .add .f64 x8_1 (fop .mul .f64 (fop .sub .f64 fr116_0 x8_1) a1) : Fl)).bind fun ft119 => (if x6_1.length < 17592186044416 then (spec_Smooth.l0 k1 l0 a1 (x6_1 ++ [ft119]) x7_1 ft119 t115 (wrap64 (x10_1 + 1))) else (none))) else ((some (fop .add .f64 fr116_0 (fop .mul .f64 (fop .sub .f64 fr116_0 fr116_0) a1) : Fl)).bind fun ft125 => (if x6_1.length < 17592186044416 then (spec_Smooth.l0 k1 l0 a1 (x6_1 ++ [ft125]) true ft125 t115 (wrap64 (x10_1 + 1))) else (none)))) else (if x7_1 = true then (if x6_1.length < 17592186044416 then (spec_Smooth.l0 k1 l0 a1 (x6_1 ++ [x8_1]) x7_1 x8_1 t115 (wrap64 (x10_1 + 1))) else (none)) else (if x6_1.length < 17592186044416 then (spec_Smooth.l0 k1 l0 a1 (x6_1 ++ [t115]) x7_1 x8_1 t115 (wrap64 (x10_1 + 1))) else (none)))) = some (r1, r2) := by first | (rw [hfr116_0]; with_reducible exact H) | (have H2_ := (Option.bind_some _ _).symm.trans H; rw [hfr116_0]; with_reducible exact H2_) | (have H2_ := (Option.bind_some _ _).symm.trans H; with_reducible exact H2_) | with_reducible exact H | (rw [hfr116_0]; exact H) | exact H
            have Nfr116_0 := Aside0.mk hfr116_0
            clear hfr116_0
            by_cases c11 : (fcmp .eql .f64 fr116_0 fr116_0) = true
            · rw [if_pos c11] at H
              have c11b0 : (fcmp .eql .f64 fr116_0 fr116_0) = true := c11
              clear c11
              by_cases c12 : x7_1 = true
              · subst c12
                have H1 : ((some (fop .add .f64 x8_1 (fop .mul .f64 (fop .sub .f64 fr116_0 x8_1) a1) : Fl)).bind fun ft119 => (if x6_1.length < 17592186044416 then (spec_Smooth.l0 k1 l0 a1 (x6_1 ++ [ft119]) true ft119 t115 (wrap64 (x10_1 + 1))) else (none))) = some (r1, r2) := by rw [if_pos rfl] at H; exact H
                clear H
                have H := H1
                clear H1
                obtain ⟨ft117, hft117⟩ : ∃ y_ : Fl, y_ = (fop .sub .f64 fr116_0 x8_1) := ⟨_, rfl⟩
                replace H : ((some (fop .add .f64 x8_1 (fop .mul .f64 ft117 a1) : Fl)).bind fun ft119 => (if x6_1.length < 17592186044416 then (spec_Smooth.l0 k1 l0 a1 (x6_1 ++ [ft119]) true ft119 t115 (wrap64 (x10_1 + 1))) else (none))) = some (r1, r2) := by first | (rw [hft117]; with_reducible exact H) | (have H2_ := (Option.bind_some _ _).symm.trans H; rw [hft117]; with_reducible exact H2_) | (have H2_ := (Option.bind_some _ _).symm.trans H; with_reducible exact H2_) | with_reducible exact H | (rw [hft117]; exact H) | exact H
                have Nft117 := Aside0.mk hft117
                clear hft117
                obtain ⟨ft118, hft118⟩ : ∃ y_ : Fl, y_ = (fop .mul .f64 ft117 a1) := ⟨_, rfl⟩
                replace H : ((some (fop .add .f64 x8_1 ft118 : Fl)).bind fun ft119 => (if x6_1.length < 17592186044416 then (spec_Smooth.l0 k1 l0 a1 (x6_1 ++ [ft119]) true ft119 t115 (wrap64 (x10_1 + 1))) else (none))) = some (r1, r2) := by first | (rw [hft118]; with_reducible exact H) | (have H2_ := (Option.bind_some _ _).symm.trans H; rw [hft118]; with_reducible exact H2_) | (have H2_ := (Option.bind_some _ _).symm.trans H; with_reducible exact H2_) | with_reducible exact H | (rw [hft118]; exact H) | exact H
                have Nft118 := Aside0.mk hft118
                clear hft118
                obtain ⟨ft119, hft119⟩ : ∃ y_ : Fl, y_ = (fop .add .f64 x8_1 ft118) := ⟨_, rfl⟩
                replace H : (if x6_1.length < 17592186044416 then (spec_Smooth.l0 k1 l0 a1 (x6_1 ++ [ft119]) true ft119 t115 (wrap64 (x10_1 + 1))) else (none)) = some (r1, r2) := by first | (rw [hft119]; with_reducible exact H) | (have H2_ := (Option.bind_some _ _).symm.trans H; rw [hft119]; with_reducible exact H2_) | (have H2_ := (Option.bind_some _ _).symm.trans H; with_reducible exact H2_) | with_reducible exact H | (rw [hft119]; exact H) | exact H
                have Nft119 := Aside0.mk hft119
                clear hft119
                by_cases c13 : x6_1.length < 17592186044416
                · rw [if_pos c13] at H
                  have LMc13 := Aside0.mk c13
                  clear c13
                  obtain ⟨y120, hy120⟩ : ∃ y_ : List (Fl), y_ = (x6_1 ++ [ft119]) := ⟨_, rfl⟩
                  replace H : (spec_Smooth.l0 k1 l0 a1 y120 true ft119 t115 (wrap64 (x10_1 + 1))) = some (r1, r2) := by first | (rw [hy120]; with_reducible exact H) | (have H2_ := (Option.bind_some _ _).symm.trans H; rw [hy120]; with_reducible exact H2_) | (have H2_ := (Option.bind_some _ _).symm.trans H; with_reducible exact H2_) | with_reducible exact H | (rw [hy120]; exact H) | exact H
                  have Ny120 := Aside0.mk hy120
                  clear hy120
                  have H' := Aside0.mk H
                  clear H
                  have p116 : 0 ≤ (x10_1 : Int) := of_decide_eq_true (by first | (with_reducible assumption) | assumption)
                  have q116 : x10_1 < (l0.length : Int) := of_decide_eq_true (by first | (with_reducible assumption) | assumption)
                  obtain ⟨ad116, b_fr116_0, e116, hx116_0, hF116_0⟩ := Kd.at_fl HR0.out x10_1 p116 q116
                  have hF_fr116_0 := hF116_0.trans Nfr116_0.out.symm
                  clear hF116_0
                  cases e116
                  replace hx116_0 := (HB.out.cell (World.block_lt_of_cell? w _ hx116_0)).trans hx116_0
                  replace p116 := eq_true p116
                  replace q116 := eq_true q116
                  go_wp2_with (first | ((with_reducible refine gate_dst (N := 38) rfl ?_); refine fop_event rfl (N := 38) rfl (op := .sub) (by simp) rfl .f64 b_fr116_0 b_x8_1 fr116_0 x8_1 rfl rfl hF_fr116_0 hF_x8_1 ?_; intro b_ft117 nf_ hF_; replace hF_ := hF_.trans Nft117.out.symm; have hF_ft117 := hF_; clear hF_) | ((with_reducible refine gate_dst (N := 40) rfl ?_); refine fop_event rfl (N := 40) rfl (op := .mul) (by simp) rfl .f64 b_ft117 b_a1 ft117 a1 rfl rfl hF_ft117 hF_a1 ?_; intro b_ft118 nf_ hF_; replace hF_ := hF_.trans Nft118.out.symm; have hF_ft118 := hF_; clear hF_) | ((with_reducible refine gate_dst (N := 43) rfl ?_); refine fop_event rfl (N := 43) rfl (op := .add) (by simp) rfl .f64 b_x8_1 b_ft118 x8_1 ft118 rfl rfl hF_x8_1 hF_ft118 ?_; intro b_ft119 nf_ hF_; replace hF_ := hF_.trans Nft119.out.symm; have hF_ft119 := hF_; clear hF_) | ((with_reducible refine gate_builtin (b := .append) (xs := #[.tmp 45, .tmp 47]) rfl ?_); at_builtin; refine Kd.R_append (Kd.fl .f64) (w0 := w) w.heap.size rfl (.tmp 45) (.tmp 47) 22 23 (.float .f64 0) 8 rfl Try.underlying22 info23 rfl (by decide) (by omega) u6 x6_1 ft119 [.float .f64 b_ft119] (fun _ => True) (fun _ => False) rfl rfl ?aP (fun _ hk => hk.elim) ?aF ?aO ?aB ?aS ?aL ?_; (case aP => exact Kd.M_fl hF_ft119); (case aB => exact (by repeat (first | (with_reducible first | exact HB.out | apply below_alloc | apply pw_below_drewN | apply below_drew1) | exact HB.out))); (case aF => exact (fun _ _ => trivial)); (case aO => exact (by (with_reducible repeat (first | apply Kd.R_alloc | apply Kd.R_drewN | apply Kd.R_drew)); exact HO_6.out)); (case aS => exact (below_size (by repeat (first | (with_reducible first | exact HB.out | apply below_alloc | apply pw_below_drewN | apply below_drew1) | exact HB.out)))); (case aL => have := LMc13.out; omega); intro v121 w14 ho hb hg hat; rw [← Ny120.out] at ho; have n0_ := Aside0.mk (hb); have n1_ := Aside0.mk (ho); clear HB; clear HO_6; have HB := n0_; have HO122 := n1_; clear n0_ n1_; clear ho hb hg hat))
                  go_roundg k1
                  case measure => have := HK1.out; omega
                  case rel => exact ⟨(y120), (true), (ft119), (wrap64 (x10_1 + 1)), b_ft119, (by first | rfl | (simp; done) | (simp [*]; done)), (by first | rfl | (simp; done) | (simp [*]; done)), (by first | rfl | (simp; done) | (simp [*]; done)), H', ⟨by have := HK1.out; omega⟩, ⟨hF_ft119⟩, ⟨by (with_reducible repeat (first | apply Kd.R_alloc | apply Kd.R_drewN | apply Kd.R_drew)); exact HO122.out⟩, ⟨by repeat (first | (with_reducible first | exact HB.out | apply below_alloc | apply pw_below_drewN | apply below_drew1) | exact HB.out)⟩⟩
                · rw [if_neg c13] at H
                  exact absurd H (by simp)
              · replace c12 := Bool.eq_false_iff.mpr c12
                subst c12
                have H1 : ((some (fop .add .f64 fr116_0 (fop .mul .f64 (fop .sub .f64 fr116_0 fr116_0) a1) : Fl)).bind fun ft125 => (if x6_1.length < 17592186044416 then (spec_Smooth.l0 k1 l0 a1 (x6_1 ++ [ft125]) true ft125 t115 (wrap64 (x10_1 + 1))) else (none))) = some (r1, r2) := by rw [if_neg (show ¬ (false = true) by decide)] at H; exact H
                clear H
                have H := H1
                clear H1
                obtain ⟨ft123, hft123⟩ : ∃ y_ : Fl, y_ = (fop .sub .f64 fr116_0 fr116_0) := ⟨_, rfl⟩
                replace H : ((some (fop .add .f64 fr116_0 (fop .mul .f64 ft123 a1) : Fl)).bind fun ft125 => (if x6_1.length < 17592186044416 then (spec_Smooth.l0 k1 l0 a1 (x6_1 ++ [ft125]) true ft125 t115 (wrap64 (x10_1 + 1))) else (none))) = some (r1, r2) := by first | (rw [hft123]; with_reducible exact H) | (have H2_ := (Option.bind_some _ _).symm.trans H; rw [hft123]; with_reducible exact H2_) | (have H2_ := (Option.bind_some _ _).symm.trans H; with_reducible exact H2_) | with_reducible exact H | (rw [hft123]; exact H) | exact H
                have Nft123 := Aside0.mk hft123
                clear hft123
                obtain ⟨ft124, hft124⟩ : ∃ y_ : Fl, y_ = (fop .mul .f64 ft123 a1) := ⟨_, rfl⟩
                replace H : ((some (fop .add .f64 fr116_0 ft124 : Fl)).bind fun ft125 => (if x6_1.length < 17592186044416 then (spec_Smooth.l0 k1 l0 a1 (x6_1 ++ [ft125]) true ft125 t115 (wrap64 (x10_1 + 1))) else (none))) = some (r1, r2) := by first | (rw [hft124]; with_reducible exact H) | (have H2_ := (Option.bind_some _ _).symm.trans H; rw [hft124]; with_reducible exact H2_) | (have H2_ := (Option.bind_some _ _).symm.trans H; with_reducible exact H2_) | with_reducible exact H | (rw [hft124]; exact H) | exact H
                have Nft124 := Aside0.mk hft124
                clear hft124
                obtain ⟨ft125, hft125⟩ : ∃ y_ : Fl, y_ = (fop .add .f64 fr116_0 ft124) := ⟨_, rfl⟩
                replace H : (if x6_1.length < 17592186044416 then (spec_Smooth.l0 k1 l0 a1 (x6_1 ++ [ft125]) true ft125 t115 (wrap64 (x10_1 + 1))) else (none)) = some (r1, r2) := by first | (rw [hft125]; with_reducible exact H) | (have H2_ := (Option.bind_some _ _).symm.trans H; rw [hft125]; with_reducible exact H2_) | (have H2_ := (Option.bind_some _ _).symm.trans H; with_reducible exact H2_) | with_reducible exact H | (rw [hft125]; exact H) | exact H
                have Nft125 := Aside0.mk hft125
                clear hft125
                by_cases c15 : x6_1.length < 17592186044416
                · rw [if_pos c15] at H
                  have LMc15 := Aside0.mk c15
                  clear c15
                  obtain ⟨y126, hy126⟩ : ∃ y_ : List (Fl), y_ = (x6_1 ++ [ft125]) := ⟨_, rfl⟩
                  replace H : (spec_Smooth.l0 k1 l0 a1 y126 true ft125 t115 (wrap64 (x10_1 + 1))) = some (r1, r2) := by first | (rw [hy126]; with_reducible exact H) | (have H2_ := (Option.bind_some _ _).symm.trans H; rw [hy126]; with_reducible exact H2_) | (have H2_ := (Option.bind_some _ _).symm.trans H; with_reducible exact H2_) | with_reducible exact H | (rw [hy126]; exact H) | exact H
                  have Ny126 := Aside0.mk hy126
                  clear hy126
                  have H' := Aside0.mk H
                  clear H
                  have p116 : 0 ≤ (x10_1 : Int) := of_decide_eq_true (by first | (with_reducible assumption) | assumption)
                  have q116 : x10_1 < (l0.length : Int) := of_decide_eq_true (by first | (with_reducible assumption) | assumption)
                  obtain ⟨ad116, b_fr116_0, e116, hx116_0, hF116_0⟩ := Kd.at_fl HR0.out x10_1 p116 q116
                  have hF_fr116_0 := hF116_0.trans Nfr116_0.out.symm
                  clear hF116_0
                  cases e116
                  replace hx116_0 := (HB.out.cell (World.block_lt_of_cell? w _ hx116_0)).trans hx116_0
                  replace p116 := eq_true p116
                  replace q116 := eq_true q116
                  go_wp2_with (first | ((with_reducible refine gate_dst (N := 38) rfl ?_); refine fop_event rfl (N := 38) rfl (op := .sub) (by simp) rfl .f64 b_fr116_0 b_fr116_0 fr116_0 fr116_0 rfl rfl hF_fr116_0 hF_fr116_0 ?_; intro b_ft123 nf_ hF_; replace hF_ := hF_.trans Nft123.out.symm; have hF_ft123 := hF_; clear hF_) | ((with_reducible refine gate_dst (N := 40) rfl ?_); refine fop_event rfl (N := 40) rfl (op := .mul) (by simp) rfl .f64 b_ft123 b_a1 ft123 a1 rfl rfl hF_ft123 hF_a1 ?_; intro b_ft124 nf_ hF_; replace hF_ := hF_.trans Nft124.out.symm; have hF_ft124 := hF_; clear hF_) | ((with_reducible refine gate_dst (N := 43) rfl ?_); refine fop_event rfl (N := 43) rfl (op := .add) (by simp) rfl .f64 b_fr116_0 b_ft124 fr116_0 ft124 rfl rfl hF_fr116_0 hF_ft124 ?_; intro b_ft125 nf_ hF_; replace hF_ := hF_.trans Nft125.out.symm; have hF_ft125 := hF_; clear hF_) | ((with_reducible refine gate_builtin (b := .append) (xs := #[.tmp 45, .tmp 47]) rfl ?_); at_builtin; refine Kd.R_append (Kd.fl .f64) (w0 := w) w.heap.size rfl (.tmp 45) (.tmp 47) 22 23 (.float .f64 0) 8 rfl Try.underlying22 info23 rfl (by decide) (by omega) u6 x6_1 ft125 [.float .f64 b_ft125] (fun _ => True) (fun _ => False) rfl rfl ?aP (fun _ hk => hk.elim) ?aF ?aO ?aB ?aS ?aL ?_; (case aP => exact Kd.M_fl hF_ft125); (case aB => exact (by repeat (first | (with_reducible first | exact HB.out | apply below_alloc | apply pw_below_drewN | apply below_drew1) | exact HB.out))); (case aF => exact (fun _ _ => trivial)); (case aO => exact (by (with_reducible repeat (first | apply Kd.R_alloc | apply Kd.R_drewN | apply Kd.R_drew)); exact HO_6.out)); (case aS => exact (below_size (by repeat (first | (with_reducible first | exact HB.out | apply below_alloc | apply pw_below_drewN | apply below_drew1) | exact HB.out)))); (case aL => have := LMc15.out; omega); intro v127 w16 ho hb hg hat; rw [← Ny126.out] at ho; have n0_ := Aside0.mk (hb); have n1_ := Aside0.mk (ho); clear HB; clear HO_6; have HB := n0_; have HO128 := n1_; clear n0_ n1_; clear ho hb hg hat))
                  go_roundg k1
                  case measure => have := HK1.out; omega
                  case rel => exact ⟨(y126), (true), (ft125), (wrap64 (x10_1 + 1)), b_ft125, (by first | rfl | (simp; done) | (simp [*]; done)), (by first | rfl | (simp; done) | (simp [*]; done)), (by first | rfl | (simp; done) | (simp [*]; done)), H', ⟨by have := HK1.out; omega⟩, ⟨hF_ft125⟩, ⟨by (with_reducible repeat (first | apply Kd.R_alloc | apply Kd.R_drewN | apply Kd.R_drew)); exact HO128.out⟩, ⟨by repeat (first | (with_reducible first | exact HB.out | apply below_alloc | apply pw_below_drewN | apply below_drew1) | exact HB.out)⟩⟩
                · rw [if_neg c15] at H
                  exact absurd H (by simp)
            · rw [if_neg c11] at H
              have c11b0 : (fcmp .eql .f64 fr116_0 fr116_0) = false := by simpa using c11
              clear c11
              by_cases c17 : x7_1 = true
              · subst c17
                have H1 : (if x6_1.length < 17592186044416 then (spec_Smooth.l0 k1 l0 a1 (x6_1 ++ [x8_1]) true x8_1 t115 (wrap64 (x10_1 + 1))) else (none)) = some (r1, r2) := by rw [if_pos rfl] at H; exact H
                clear H
                have H := H1
                clear H1
                by_cases c18 : x6_1.length < 17592186044416
                · rw [if_pos c18] at H
                  have LMc18 := Aside0.mk c18
                  clear c18
                  obtain ⟨y129, hy129⟩ : ∃ y_ : List (Fl), y_ = (x6_1 ++ [x8_1]) := ⟨_, rfl⟩
                  replace H : (spec_Smooth.l0 k1 l0 a1 y129 true x8_1 t115 (wrap64 (x10_1 + 1))) = some (r1, r2) := by first | (rw [hy129]; with_reducible exact H) | (have H2_ := (Option.bind_some _ _).symm.trans H; rw [hy129]; with_reducible exact H2_) | (have H2_ := (Option.bind_some _ _).symm.trans H; with_reducible exact H2_) | with_reducible exact H | (rw [hy129]; exact H) | exact H
                  have Ny129 := Aside0.mk hy129
                  clear hy129
                  have H' := Aside0.mk H
                  clear H
                  have p116 : 0 ≤ (x10_1 : Int) := of_decide_eq_true (by first | (with_reducible assumption) | assumption)
                  have q116 : x10_1 < (l0.length : Int) := of_decide_eq_true (by first | (with_reducible assumption) | assumption)
                  obtain ⟨ad116, b_fr116_0, e116, hx116_0, hF116_0⟩ := Kd.at_fl HR0.out x10_1 p116 q116
                  have hF_fr116_0 := hF116_0.trans Nfr116_0.out.symm
                  clear hF116_0
                  cases e116
                  replace hx116_0 := (HB.out.cell (World.block_lt_of_cell? w _ hx116_0)).trans hx116_0
                  replace p116 := eq_true p116
                  replace q116 := eq_true q116
                  go_wp2_with (first | ((with_reducible refine gate_builtin (b := .append) (xs := #[.tmp 45, .tmp 47]) rfl ?_); at_builtin; refine Kd.R_append (Kd.fl .f64) (w0 := w) w.heap.size rfl (.tmp 45) (.tmp 47) 22 23 (.float .f64 0) 8 rfl Try.underlying22 info23 rfl (by decide) (by omega) u6 x6_1 x8_1 [.float .f64 b_x8_1] (fun _ => True) (fun _ => False) rfl rfl ?aP (fun _ hk => hk.elim) ?aF ?aO ?aB ?aS ?aL ?_; (case aP => exact Kd.M_fl hF_x8_1); (case aB => exact (by exact HB.out)); (case aF => exact (fun _ _ => trivial)); (case aO => exact (by exact HO_6.out)); (case aS => exact (below_size (by exact HB.out))); (case aL => have := LMc18.out; omega); intro v130 w19 ho hb hg hat; rw [← Ny129.out] at ho; have n0_ := Aside0.mk (hb); have n1_ := Aside0.mk (ho); clear HB; clear HO_6; have HB := n0_; have HO131 := n1_; clear n0_ n1_; clear ho hb hg hat))
                  go_roundg k1
                  case measure => have := HK1.out; omega
                  case rel => exact ⟨(y129), (true), (x8_1), (wrap64 (x10_1 + 1)), b_x8_1, (by first | rfl | (simp; done) | (simp [*]; done)), (by first | rfl | (simp; done) | (simp [*]; done)), (by first | rfl | (simp; done) | (simp [*]; done)), H', ⟨by have := HK1.out; omega⟩, ⟨hF_x8_1⟩, ⟨by (with_reducible repeat (first | apply Kd.R_alloc | apply Kd.R_drewN | apply Kd.R_drew)); exact HO131.out⟩, ⟨by repeat (first | (with_reducible first | exact HB.out | apply below_alloc | apply pw_below_drewN | apply below_drew1) | exact HB.out)⟩⟩
                · rw [if_neg c18] at H
                  exact absurd H (by simp)
              · replace c17 := Bool.eq_false_iff.mpr c17
                subst c17
                have H1 : (if x6_1.length < 17592186044416 then (spec_Smooth.l0 k1 l0 a1 (x6_1 ++ [t115]) false x8_1 t115 (wrap64 (x10_1 + 1))) else (none)) = some (r1, r2) := by rw [if_neg (show ¬ (false = true) by decide)] at H; exact H
                clear H
                have H := H1
                clear H1
                by_cases c20 : x6_1.length < 17592186044416
                · rw [if_pos c20] at H
                  have LMc20 := Aside0.mk c20
                  clear c20
                  obtain ⟨y132, hy132⟩ : ∃ y_ : List (Fl), y_ = (x6_1 ++ [t115]) := ⟨_, rfl⟩
                  replace H : (spec_Smooth.l0 k1 l0 a1 y132 false x8_1 t115 (wrap64 (x10_1 + 1))) = some (r1, r2) := by first | (rw [hy132]; with_reducible exact H) | (have H2_ := (Option.bind_some _ _).symm.trans H; rw [hy132]; with_reducible exact H2_) | (have H2_ := (Option.bind_some _ _).symm.trans H; with_reducible exact H2_) | with_reducible exact H | (rw [hy132]; exact H) | exact H
                  have Ny132 := Aside0.mk hy132
                  clear hy132
                  have H' := Aside0.mk H
                  clear H
                  have p116 : 0 ≤ (x10_1 : Int) := of_decide_eq_true (by first | (with_reducible assumption) | assumption)
                  have q116 : x10_1 < (l0.length : Int) := of_decide_eq_true (by first | (with_reducible assumption) | assumption)
                  obtain ⟨ad116, b_fr116_0, e116, hx116_0, hF116_0⟩ := Kd.at_fl HR0.out x10_1 p116 q116
                  have hF_fr116_0 := hF116_0.trans Nfr116_0.out.symm
                  clear hF116_0
                  cases e116
                  replace hx116_0 := (HB.out.cell (World.block_lt_of_cell? w _ hx116_0)).trans hx116_0
                  replace p116 := eq_true p116
                  replace q116 := eq_true q116
                  go_wp2_with (first | ((with_reducible refine gate_builtin (b := .append) (xs := #[.tmp 49, .tmp 51]) rfl ?_); at_builtin; refine Kd.R_append (Kd.fl .f64) (w0 := w) w.heap.size rfl (.tmp 49) (.tmp 51) 22 23 (.float .f64 0) 8 rfl Try.underlying22 info23 rfl (by decide) (by omega) u6 x6_1 t115 [.float .f64 b_t115] (fun _ => True) (fun _ => False) rfl rfl ?aP (fun _ hk => hk.elim) ?aF ?aO ?aB ?aS ?aL ?_; (case aP => exact Kd.M_fl hF_t115); (case aB => exact (by exact HB.out)); (case aF => exact (fun _ _ => trivial)); (case aO => exact (by exact HO_6.out)); (case aS => exact (below_size (by exact HB.out))); (case aL => have := LMc20.out; omega); intro v133 w21 ho hb hg hat; rw [← Ny132.out] at ho; have n0_ := Aside0.mk (hb); have n1_ := Aside0.mk (ho); clear HB; clear HO_6; have HB := n0_; have HO134 := n1_; clear n0_ n1_; clear ho hb hg hat))
                  go_roundg k1
                  case measure => have := HK1.out; omega
                  case rel => exact ⟨(y132), (false), (x8_1), (wrap64 (x10_1 + 1)), b_x8_1, (by first | rfl | (simp; done) | (simp [*]; done)), (by first | rfl | (simp; done) | (simp [*]; done)), (by first | rfl | (simp; done) | (simp [*]; done)), H', ⟨by have := HK1.out; omega⟩, ⟨hF_x8_1⟩, ⟨by (with_reducible repeat (first | apply Kd.R_alloc | apply Kd.R_drewN | apply Kd.R_drew)); exact HO134.out⟩, ⟨by repeat (first | (with_reducible first | exact HB.out | apply below_alloc | apply pw_below_drewN | apply below_drew1) | exact HB.out)⟩⟩
                · rw [if_neg c20] at H
                  exact absurd H (by simp)
          · rw [if_neg c10] at H
            exact absurd H (by simp)
        · rw [if_neg c9] at H
          have c9b0 : decide (x10_1 < (l0.length : Int)) = false := decide_eq_false c9
          clear c9
          simp only [Option.some.injEq, Prod.mk.injEq] at H
          obtain ⟨rfl, rfl⟩ := H
          go_wp2
          go_ret2
          exact ⟨_, by first | rfl | (simp [errW_none, errW_some] <;> rfl) | (simp [*, errW_none, errW_some] <;> rfl), by (with_reducible repeat (first | apply Kd.R_alloc | apply Kd.R_drewN | apply Kd.R_drew)); exact HO_6.out, by repeat (first | (with_reducible first | exact HB.out | apply below_alloc | apply pw_below_drewN | apply below_drew1) | exact HB.out)⟩

/-! ### math_IsNaN: function 67 -/
def math_IsNaN.f (a0 : Fl) : Option (Bool) := some (fcmp .neq .f64 a0 a0)
set_option maxHeartbeats 8000000 in
set_option maxRecDepth 100000 in
theorem math_IsNaN.calls (b_a0 : Nat) (a0 : Fl) (r : Bool) (w : World) (hF_a0 : cn .f64 b_a0 = a0) (h : math_IsNaN.f a0 = some r) :
    Calls Try.prog 67 #[.float .f64 b_a0] w fun e w' => e = .returned (.bool r) ∧ Drawn0 w w' := by
  have H : (some (fcmp .neq .f64 a0 a0)) = some r := h
  clear h
  obtain rfl := Option.some.inj H
  go_enter Try.func67, Try.ntmps67
  go_wp2
  go_ret
  exact ⟨by first | rfl | (simp; done) | (simp [*]; done), by repeat (first | exact Drawn0.refl _ | apply Drawn0.step)⟩

-- NOT PRINTED: function 92 (math_Float64frombits)

/-! ### math_NaN: function 75 -/
def math_NaN.f  : Option (Fl) := some (cn .f64 9221120237041090561)
set_option maxHeartbeats 8000000 in
set_option maxRecDepth 100000 in
theorem math_NaN.calls  (r : Fl) (w : World) (h : math_NaN.f  = some r) :
    Calls Try.prog 75 #[] w fun e w' => ∃ b_r : Nat, e = .returned (.float .f64 b_r) ∧ cn .f64 b_r = r ∧ Drawn0 w w' := by
  have H : (some (cn .f64 9221120237041090561)) = some r := h
  clear h
  obtain rfl := Option.some.inj H
  go_enter Try.func75, Try.ntmps75
  go_wp2_with (first | ((with_reducible refine gate_callee (f := 92) rfl ?_); refine extern_event rfl (N := 1) rfl (e := Extern.MathFloatBits.float64frombits) rfl Try.func92 (by kernel_rfl) rfl (by kernel_rfl) (by kernel_rfl) #[.int .u64 9221120237041090561] (by (try simp only [List.map_toArray, List.map_cons, List.map_nil]); first | done | rfl) (.float .f64 9221120237041090561) rfl ?_))
  go_ret
  exact ⟨9221120237041090561, by first | rfl | (simp; done) | (simp [*]; done), rfl, by repeat (first | exact Drawn0.refl _ | apply Drawn0.step)⟩

/-! ### impl_Smooth_1: function 77 -/
def impl_Smooth_1.f (a0 : Fl) : Option (Bool) := (math_IsNaN.f a0).bind fun t135 => (some (!t135))
set_option maxHeartbeats 8000000 in
set_option maxRecDepth 100000 in
theorem impl_Smooth_1.calls (b_a0 : Nat) (a0 : Fl) (r : Bool) (w : World) (hF_a0 : cn .f64 b_a0 = a0) (h : impl_Smooth_1.f a0 = some r) :
    Calls Try.prog 77 #[.float .f64 b_a0] w fun e w' => e = .returned (.bool r) ∧ Drawn0 w w' := by
  have H : ((math_IsNaN.f a0).bind fun t135 => (some (!t135))) = some r := h
  clear h
  replace H := Option.bind_eq_some_iff.mp H
  obtain ⟨t135, A20, H⟩ := H
  replace H : (some (!t135)) = some r := H
  have A2 := Aside0.mk A20
  clear A20
  obtain rfl := Option.some.inj H
  go_enter Try.func77, Try.ntmps77
  go_wp2_with (first | ((with_reducible refine gate_callee (f := 67) rfl ?_); refine goesL_ (some 4) rfl rfl Try.func67 (by kernel_rfl) rfl #[.float .f64 b_a0] rfl (by (try simp only [List.map_toArray, List.map_cons, List.map_nil]); first | done | rfl | (simp only [List.length_drop, List.length_take]; rfl)) ?_; (with_reducible refine (math_IsNaN.calls b_a0 a0 t135 _ ?side1 A2.out).mono ?_); (case side1 => exact hF_a0); rintro e w' ⟨rfl, ⟨nd, rfl⟩⟩; refine ⟨_, rfl, ?_⟩))
  go_ret
  exact ⟨by first | rfl | (simp; done) | (simp [*]; done), by repeat (first | exact Drawn0.refl _ | apply Drawn0.step)⟩

end Go.Proofs.Ytfopdbdamkfglaa.QFnExactSmooth
