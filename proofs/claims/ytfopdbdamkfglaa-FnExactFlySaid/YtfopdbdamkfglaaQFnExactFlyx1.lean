/- Lean functions that tell what the Go functions used by one law answer, and for each a proof that the Go code comes to just these answers; no condition. Printed by this session's own program over the kit's printer. -/
import Derived.Test.YtfopdbdamkfglaaQFnExactFlyx0
namespace Go.Proofs.Ytfopdbdamkfglaa.QFnExactFly
open Go.RowKit Go.Proofs.YtfopdbdamkfglaaW.PrintWords Go.Proofs.YtfopdbdamkfglaaW.PrintLast Go.Proofs.YtfopdbdamkfglaaW.PrintMore
attribute [local go_sem] max2_int min2_int max_two min_two max_three min_three max_four min_four   -- for this text's walks alone
attribute [local go_sem high] go_eql go_neq go_lss go_leq go_gtr go_geq go_store   -- for this text's walks alone
set_option linter.unusedVariables false
set_option linter.unusedSimpArgs false

/-! ### laws_toFloat64S: function 15 -/
def laws_toFloat64S.l0 : Nat → List (Fl) → List (Fl) → Int → Option ((List (Fl)))
  | 0, _, _, _ => none
  | k + 1, x0, x3, x4 => if x4 < (x0.length : Int) then (if 0 ≤ x4 then (if x4 < (x3.length : Int) then (laws_toFloat64S.l0 k x0 (x3.set (x4 : Int).toNat (rdf .f64 x0 x4)) (wrap64 (x4 + 1))) else (none)) else (none)) else (some x3)
def laws_toFloat64S.f (k : Nat) (l0 : List (Fl)) : Option ((List (Fl))) := if 0 ≤ (l0.length : Int) then (if ((l0.length : Int) : Int).toNat ≤ 35184372088832 then (laws_toFloat64S.l0 k l0 (List.replicate ((l0.length : Int) : Int).toNat (cn .f64 0)) 0) else (none)) else (none)
theorem laws_toFloat64S.mono_l : ∀ k, (∀ y0 y1 y2, LeO (laws_toFloat64S.l0 k y0 y1 y2) (laws_toFloat64S.l0 (k + 1) y0 y1 y2))
  | 0 => fun _ _ _ r h => by simp [laws_toFloat64S.l0] at h
  | k + 1 => by
    have ih0 := laws_toFloat64S.mono_l k
    · intro y0 y1 y2
      unfold laws_toFloat64S.l0
      repeat' first
      | (with_reducible exact ih0 _ _ _)
      | (with_reducible exact LeO.refl _)
      | (with_reducible exact LeO.none _)
      | (with_reducible refine LeO.ite ?_ ?_)
      | (with_reducible refine LeO.bind ?_ (fun _ => ?_))
      | exact ih0 _ _ _
      | exact LeO.none _
      | refine LeO.ite ?_ ?_
      | refine LeO.bind ?_ (fun _ => ?_)
theorem laws_toFloat64S.mono : ∀ a0 k, LeO (laws_toFloat64S.f k a0) (laws_toFloat64S.f (k + 1) a0) := by
  intro a0 k
  have ih0 := laws_toFloat64S.mono_l k
  unfold laws_toFloat64S.f
  repeat' first
      | (with_reducible exact ih0 _ _ _)
      | (with_reducible exact LeO.refl _)
      | (with_reducible exact LeO.none _)
      | (with_reducible refine LeO.ite ?_ ?_)
      | (with_reducible refine LeO.bind ?_ (fun _ => ?_))
      | exact ih0 _ _ _
      | exact LeO.none _
      | refine LeO.ite ?_ ?_
      | refine LeO.bind ?_ (fun _ => ?_)
set_option maxHeartbeats 8000000 in
set_option maxRecDepth 100000 in
theorem laws_toFloat64S.calls (k : Nat) (A0 : Option Addr) (c0 : Nat) (l0 : List (Fl)) (r : List (Fl)) (w : World) (hr0 : Kd.C (Kd.fl .f64) w A0 l0.length l0) (hc0 : l0.length ≤ c0) (h : laws_toFloat64S.f k l0 = some r) :
    Calls Try.prog 15 #[.slice A0 l0.length c0] w fun e w' => ∃ v0_ : Value, e = .returned (v0_) ∧ Kd.R (Kd.fl .f64) 23 w' w.heap.size (fun _ => True) v0_ r ∧ Below w.heap.size w w' := by
  have HR0 := Aside0.mk hr0
  have HC0 := Aside0.mk hc0
  clear hr0 hc0
  have HB := Aside0.mk (Below.refl w.heap.size w)
  have H : (if 0 ≤ (l0.length : Int) then (if ((l0.length : Int) : Int).toNat ≤ 35184372088832 then (laws_toFloat64S.l0 k l0 (List.replicate ((l0.length : Int) : Int).toNat (cn .f64 0)) 0) else (none)) else (none)) = some r := h
  clear h
  by_cases c2 : 0 ≤ (l0.length : Int)
  · rw [if_pos c2] at H
    have c2b0 := eq_true c2
    have c2b1 : decide (0 ≤ (l0.length : Int)) = true := decide_eq_true c2
    clear c2
    by_cases c3 : ((l0.length : Int) : Int).toNat ≤ 35184372088832
    · rw [if_pos c3] at H
      have c3b0 := eq_true c3
      have c3b1 : decide (((l0.length : Int) : Int).toNat ≤ 35184372088832) = true := decide_eq_true c3
      clear c3
      obtain ⟨y101, hy101⟩ : ∃ y_ : List (Fl), y_ = (List.replicate ((l0.length : Int) : Int).toNat (cn .f64 0)) := ⟨_, rfl⟩
      replace H : (laws_toFloat64S.l0 k l0 y101 0) = some r := by first | (rw [hy101]; with_reducible exact H) | (have H2_ := (Option.bind_some _ _).symm.trans H; rw [hy101]; with_reducible exact H2_) | (have H2_ := (Option.bind_some _ _).symm.trans H; with_reducible exact H2_) | with_reducible exact H | (rw [hy101]; exact H) | exact H
      have Ny101 := Aside0.mk hy101
      clear hy101
      have H' := Aside0.mk H
      clear H
      go_enter Try.func15, Try.ntmps15
      go_wp2_with (first | ((with_reducible refine gate_dst (N := 7) rfl ?_); refine Kd.R_make (Kd.fl .f64) _ 23 rfl (N := 7) rfl 22 _ _ rfl (l0.length : Int) rfl rfl Try.underlying22 (.float .f64 0) 8 info23 rfl (by decide) (by omega) (cn .f64 0) (ok := fun _ => True) (okp := fun _ => True) (Kd.M_fl rfl) (fun _ hk => hk) trivial (of_decide_eq_true (by first | (with_reducible assumption) | assumption)) (Nat.le_trans (Nat.mul_le_mul_right _ (of_decide_eq_true (by first | (with_reducible assumption) | assumption) : (l0.length : Int).toNat ≤ 35184372088832)) (by omega)) (Below.refl _ _) (Nat.le_refl _) ?_; intro v102 w4 ho5 hb hg_ hnew_; clear hg_ hnew_; (first | rw [← Ny101.out] at ho5 | (simp only [Int.reduceToNat] at ho5; rw [← Ny101.out] at ho5)); have n0_ := Aside0.mk (Kd.R_lower ho5 (below_size (by repeat (first | (with_reducible first | exact HB.out | apply below_alloc | apply pw_below_drewN | apply below_drew1) | exact HB.out)))); have n1_ := Aside0.mk (below_step (by repeat (first | (with_reducible first | exact HB.out | apply below_alloc | apply pw_below_drewN | apply below_drew1) | exact HB.out)) hb); clear HB; have HO103 := n0_; have HB := n1_; clear n0_ n1_; clear hb ho5))
      go_loopg [4] k (fun kq v4 w' => ∃ (x3_1 : List (Fl)) (x4_1 : Int), v4 = .int .i64 x4_1 ∧ Aside0 (laws_toFloat64S.l0 kq l0 x3_1 x4_1 = some r) ∧ Aside0 (kq ≤ k) ∧ Aside0 (Kd.R (Kd.fl .f64) 23 w' w.heap.size (fun _ => True) v102 x3_1) ∧ Aside0 (Below w.heap.size w w'))
      case atStart => exact ⟨(y101), (0), (by first | rfl | (simp; done) | (simp [*]; done)), H', ⟨Nat.le_refl _⟩, ⟨by (with_reducible repeat (first | apply Kd.R_alloc | apply Kd.R_drewN | apply Kd.R_drew)); exact HO103.out⟩, ⟨by repeat (first | (with_reducible first | exact HB.out | apply below_alloc | apply pw_below_drewN | apply below_drew1) | exact HB.out)⟩⟩
      case round =>
        clear H'
        try clear c1
        try clear c2
        try clear c2b0
        try clear c2b1
        try clear p2
        try clear c3
        try clear c3b0
        try clear c3b1
        obtain ⟨x3_1, x4_1, rfl, HA, HK1, HO_3, HB⟩ := hrel
        cases gk with
        | zero => exact absurd HA.out (by simp [laws_toFloat64S.l0])
        | succ k1 =>
          have H := HA.out
          clear HA
          simp only [laws_toFloat64S.l0] at H
          by_cases c6 : x4_1 < (l0.length : Int)
          · rw [if_pos c6] at H
            have c6b0 : decide (x4_1 < (l0.length : Int)) = true := decide_eq_true c6
            clear c6
            by_cases c7 : 0 ≤ x4_1
            · rw [if_pos c7] at H
              have c7b0 : decide (0 ≤ x4_1) = true := decide_eq_true c7
              clear c7
              obtain ⟨fr104_0, hfr104_0⟩ : ∃ y_ : Fl, y_ = (rdf .f64 l0 x4_1) := ⟨_, rfl⟩
              replace H : (if x4_1 < (x3_1.length : Int) then (laws_toFloat64S.l0 k1 l0 (x3_1.set (x4_1 : Int).toNat fr104_0) (wrap64 (x4_1 + 1))) else (none)) = some r := by first | (rw [hfr104_0]; with_reducible exact H) | (have H2_ := (Option.bind_some _ _).symm.trans H; rw [hfr104_0]; with_reducible exact H2_) | (have H2_ := (Option.bind_some _ _).symm.trans H; with_reducible exact H2_) | with_reducible exact H | (rw [hfr104_0]; exact H) | exact H
              have Nfr104_0 := Aside0.mk hfr104_0
              clear hfr104_0
              by_cases c8 : x4_1 < (x3_1.length : Int)
              · rw [if_pos c8] at H
                have c8b0 : decide (x4_1 < (x3_1.length : Int)) = true := decide_eq_true c8
                clear c8
                obtain ⟨y105, hy105⟩ : ∃ y_ : List (Fl), y_ = (x3_1.set (x4_1 : Int).toNat fr104_0) := ⟨_, rfl⟩
                replace H : (laws_toFloat64S.l0 k1 l0 y105 (wrap64 (x4_1 + 1))) = some r := by first | (rw [hy105]; with_reducible exact H) | (have H2_ := (Option.bind_some _ _).symm.trans H; rw [hy105]; with_reducible exact H2_) | (have H2_ := (Option.bind_some _ _).symm.trans H; with_reducible exact H2_) | with_reducible exact H | (rw [hy105]; exact H) | exact H
                have Ny105 := Aside0.mk hy105
                clear hy105
                have H' := Aside0.mk H
                clear H
                have p104 : 0 ≤ (x4_1 : Int) := of_decide_eq_true (by first | (with_reducible assumption) | assumption)
                have q104 : x4_1 < (l0.length : Int) := of_decide_eq_true (by first | (with_reducible assumption) | assumption)
                obtain ⟨ad104, b_fr104_0, e104, hx104_0, hF104_0⟩ := Kd.at_fl HR0.out x4_1 p104 q104
                have hF_fr104_0 := hF104_0.trans Nfr104_0.out.symm
                clear hF104_0
                cases e104
                replace hx104_0 := (HB.out.cell (World.block_lt_of_cell? w _ hx104_0)).trans hx104_0
                replace p104 := eq_true p104
                replace q104 := eq_true q104
                have p9 : 0 ≤ (x4_1 : Int) := of_decide_eq_true (by first | (with_reducible assumption) | assumption)
                have q9 : (x4_1 : Int) < ((x3_1.length : Int) : Int) := of_decide_eq_true (by first | (with_reducible assumption) | assumption)
                obtain ⟨go9, co9, eo9, gb9, gl9, cl9, HG9⟩ := Kd.R_form HO_3.out (by omega)
                (first | cases eo9 | (injection eo9 with ea_ en_ ec_; (first | subst ea_ | (injection ea_ with ea_; subst ea_)); subst ec_; clear en_))
                have GB9 := Aside0.mk gb9
                have GG9 := Aside0.mk HG9
                clear gb9 gl9 HG9
                obtain ⟨ce9, hcl9, hM9, hcc9, hfr9⟩ := Kd.R_elem HO_3.out (cn .f64 0) (x4_1 : Int) p9 q9
                obtain ⟨b_fr9_0, rfl, hF9_0⟩ := hM9
                have hx9_0 := hcc9 0 _ rfl
                have hf9_0 := hfr9 0
                (try simp only [show ((Kd.fl .f64)).sz = 1 from rfl, Nat.mul_one, Nat.add_zero] at hx9_0)
                (try simp only [show ((Kd.fl .f64)).sz = 1 from rfl, Nat.mul_one, Nat.add_zero] at hf9_0)
                clear hcl9 hcc9 hfr9; (try clear hM9)
                replace p9 := eq_true p9
                replace q9 := eq_true q9
                have HX10 := Aside0.mk (show Kd.R (Kd.fl .f64) 23 wr w.heap.size (fun _ => True) (.slice (some ⟨go9, 0, none⟩) x3_1.length co9) x3_1 from (by (with_reducible repeat (first | apply Kd.R_alloc | apply Kd.R_drewN | apply Kd.R_drew)); exact HO_3.out))
                obtain ⟨ce10, hcl10, hM10, hcc10, hfr10⟩ := Kd.R_elem HX10.out (cn .f64 0) (x4_1 : Int) (of_decide_eq_true (by first | (with_reducible assumption) | assumption)) (by have h_ : (x4_1 : Int) < ((x3_1.length : Int) : Int) := of_decide_eq_true (by first | (with_reducible assumption) | assumption); first | exact h_ | (have e_ := (Kd.R_reads' HO_3.out).1; omega) | simpa using h_)
                obtain ⟨b_fr10_0, rfl, hF10_0⟩ := hM10
                have HP10 := Kd.R_seg HX10.out (x4_1 : Int) (of_decide_eq_true (by first | (with_reducible assumption) | assumption)) (by have h_ : (x4_1 : Int) < ((x3_1.length : Int) : Int) := of_decide_eq_true (by first | (with_reducible assumption) | assumption); first | exact h_ | (have e_ := (Kd.R_reads' HO_3.out).1; omega) | simpa using h_) (seg := [.float .f64 b_fr104_0]) (j := 0) hcl10 hcc10 (show 1 ≤ 1 from by decide) (x' := fr104_0) (Kd.M_fl hF_fr104_0) (fun _ hk => hk)
                have hx10_0 := hcc10 0 _ rfl
                (try simp only [show ((Kd.fl .f64)).sz = 1 from rfl, Nat.mul_one, Nat.add_zero] at hx10_0)
                have hf10_0 := hfr10 0
                (try simp only [show ((Kd.fl .f64)).sz = 1 from rfl, Nat.mul_one, Nat.add_zero] at hf10_0)
                clear hcl10 hcc10 hfr10; (try clear hM10)
                (try simp only [show ((Kd.fl .f64)).sz = 1 from rfl, Nat.mul_one, Nat.add_zero] at HP10)
                go_wp2_with (first | ((with_reducible refine gate_store (t := 23) (p := 20) rfl ?_); refine store_event (t := 23) (p := 20) (v := ?vo_w11) (w1 := (wr.setCell ⟨go9, (x4_1 : Int).toNat, none⟩ (.float .f64 b_fr104_0))) ?hg ?ho ?hn ?hr ?_; (case ho => rfl); (case hg => rfl); (case hn => rfl); (case hr => first | (go_simp; done) | (go_simp; rfl)); intro w11 hw; have hg : wr.grownBy w11 (some go9) := (by rw [hw]; exact HP10.2); have hp_ : Kd.R (Kd.fl .f64) 23 w11 w.heap.size (fun _ => True) (.slice (some ⟨go9, 0, none⟩) x3_1.length co9) y105 := (by rw [hw, Ny105.out]; exact HP10.1); clear HP10; have n0_ := Aside0.mk (hp_); have n1_ := Aside0.mk ((by rw [hw]; exact below_set (HB.out) GB9.out : Below w.heap.size w w11)); clear HO_3; clear HB; have HO_3 := n0_; have HB := n1_; clear n0_ n1_; clear hg hw hp_))
                go_roundg k1
                case measure => have := HK1.out; omega
                case rel => exact ⟨(y105), (wrap64 (x4_1 + 1)), (by first | rfl | (simp; done) | (simp [*]; done)), H', ⟨by have := HK1.out; omega⟩, ⟨by (with_reducible repeat (first | apply Kd.R_alloc | apply Kd.R_drewN | apply Kd.R_drew)); exact HO_3.out⟩, ⟨by repeat (first | (with_reducible first | exact HB.out | apply below_alloc | apply pw_below_drewN | apply below_drew1) | exact HB.out)⟩⟩
              · rw [if_neg c8] at H
                exact absurd H (by simp)
            · rw [if_neg c7] at H
              exact absurd H (by simp)
          · rw [if_neg c6] at H
            have c6b0 : decide (x4_1 < (l0.length : Int)) = false := decide_eq_false c6
            clear c6
            obtain rfl := Option.some.inj H
            go_wp2
            go_ret
            exact ⟨_, by first | rfl | (simp [errW_none, errW_some] <;> rfl) | (simp [*, errW_none, errW_some] <;> rfl), by (with_reducible repeat (first | apply Kd.R_alloc | apply Kd.R_drewN | apply Kd.R_drew)); exact HO_3.out, by repeat (first | (with_reducible first | exact HB.out | apply below_alloc | apply pw_below_drewN | apply below_drew1) | exact HB.out)⟩
    · rw [if_neg c3] at H
      exact absurd H (by simp)
  · rw [if_neg c2] at H
    exact absurd H (by simp)

/-! ### laws_sameFloat: function 17 -/
def laws_sameFloat.j0 : Nat → Fl → Fl → Bool → Option (Bool)
  | 0, _, _, _ => none
  | k + 1, x0, x1, x12 => if x12 = true then (if (fcmp .neq .f64 x0 x0) = true then (some (fcmp .neq .f64 x1 x1)) else (some false)) else (if (fcmp .eql .f64 x0 (cn .f64 0)) = true then (if (fcmp .eql .f64 x1 (cn .f64 0)) = true then (some ((fcmp .gtr .f64 (fop .quo .f64 (cn .f64 4607182418800017408) x0) (cn .f64 0)) == (fcmp .gtr .f64 (fop .quo .f64 (cn .f64 4607182418800017408) x1) (cn .f64 0)))) else (some (fcmp .eql .f64 x0 x1))) else (some (fcmp .eql .f64 x0 x1)))
def laws_sameFloat.f (k : Nat) (a0 : Fl) (a1 : Fl) : Option (Bool) := if (fcmp .neq .f64 a0 a0) = true then (laws_sameFloat.j0 k a0 a1 true) else (laws_sameFloat.j0 k a0 a1 (fcmp .neq .f64 a1 a1))
theorem laws_sameFloat.mono_l : ∀ k, (∀ y0 y1 y2, LeO (laws_sameFloat.j0 k y0 y1 y2) (laws_sameFloat.j0 (k + 1) y0 y1 y2))
  | 0 => fun _ _ _ r h => by simp [laws_sameFloat.j0] at h
  | k + 1 => by
    have ih0 := laws_sameFloat.mono_l k
    · intro y0 y1 y2
      unfold laws_sameFloat.j0
      repeat' first
      | (with_reducible exact ih0 _ _ _)
      | (with_reducible exact LeO.refl _)
      | (with_reducible exact LeO.none _)
      | (with_reducible refine LeO.ite ?_ ?_)
      | (with_reducible refine LeO.bind ?_ (fun _ => ?_))
      | exact ih0 _ _ _
      | exact LeO.none _
      | refine LeO.ite ?_ ?_
      | refine LeO.bind ?_ (fun _ => ?_)
theorem laws_sameFloat.mono : ∀ a0 a1 k, LeO (laws_sameFloat.f k a0 a1) (laws_sameFloat.f (k + 1) a0 a1) := by
  intro a0 a1 k
  have ih0 := laws_sameFloat.mono_l k
  unfold laws_sameFloat.f
  repeat' first
      | (with_reducible exact ih0 _ _ _)
      | (with_reducible exact LeO.refl _)
      | (with_reducible exact LeO.none _)
      | (with_reducible refine LeO.ite ?_ ?_)
      | (with_reducible refine LeO.bind ?_ (fun _ => ?_))
      | exact ih0 _ _ _
      | exact LeO.none _
      | refine LeO.ite ?_ ?_
      | refine LeO.bind ?_ (fun _ => ?_)
set_option maxHeartbeats 8000000 in
set_option maxRecDepth 100000 in
theorem laws_sameFloat.calls (k : Nat) (b_a0 : Nat) (a0 : Fl) (b_a1 : Nat) (a1 : Fl) (r : Bool) (w : World) (hF_a0 : cn .f64 b_a0 = a0) (hF_a1 : cn .f64 b_a1 = a1) (h : laws_sameFloat.f k a0 a1 = some r) :
    Calls Try.prog 17 #[.float .f64 b_a0, .float .f64 b_a1] w fun e w' => e = .returned (.bool r) ∧ Drawn0 w w' := by
  have H : (if (fcmp .neq .f64 a0 a0) = true then (laws_sameFloat.j0 k a0 a1 true) else (laws_sameFloat.j0 k a0 a1 (fcmp .neq .f64 a1 a1))) = some r := h
  clear h
  have HC3 := Aside0.mk H
  clear H
  go_enter Try.func17, Try.ntmps17
  go_upto_region 1 with (fail)
  go_cut [12] (fun v12 wc => ∃ (kq : Nat) (x12_2 : Bool), v12 = .bool x12_2 ∧ Aside0 (laws_sameFloat.j0 kq a0 a1 x12_2 = some r) ∧ Aside0 (kq ≤ k) ∧ Drawn0 w wc)
  case first =>
    have H := HC3.out
    clear HC3
    by_cases c4 : (fcmp .neq .f64 a0 a0) = true
    · rw [if_pos c4] at H
      have c4b0 : (fcmp .neq .f64 a0 a0) = true := c4
      clear c4
      (first | rw [c4b0] | (simp only [i64_w, i32_w]; rw [c4b0]) | skip)
      have H' := Aside0.mk H
      clear H
      go_wp2
      go_meet
      case rel => exact ⟨_, (true), (by first | rfl | (simp; done) | (simp [*]; done)), H', ⟨by first | omega | exact Nat.le_refl _⟩, by repeat (first | exact Drawn0.refl _ | apply Drawn0.step)⟩
    · rw [if_neg c4] at H
      have c4b0 : (fcmp .neq .f64 a0 a0) = false := by simpa using c4
      clear c4
      (first | rw [c4b0] | (simp only [i64_w, i32_w]; rw [c4b0]) | skip)
      have H' := Aside0.mk H
      clear H
      go_wp2
      go_meet
      case rel => exact ⟨_, ((fcmp .neq .f64 a1 a1)), (by first | rfl | (simp; done) | (simp [*]; done)), H', ⟨by first | omega | exact Nat.le_refl _⟩, by repeat (first | exact Drawn0.refl _ | apply Drawn0.step)⟩
  case rest =>
    clear HC3
    try clear c1
    try clear p2
    try clear c4
    try clear c4b0
    obtain ⟨kq, x12_2, rfl, HA, HJ2, ⟨mc2, rfl⟩⟩ := hcut
    cases kq with
    | zero => exact absurd HA.out (by simp [laws_sameFloat.j0])
    | succ kj2 =>
      have H := HA.out
      clear HA
      simp only [laws_sameFloat.j0] at H
      by_cases c5 : x12_2 = true
      · subst c5
        have H1 : (if (fcmp .neq .f64 a0 a0) = true then (some (fcmp .neq .f64 a1 a1)) else (some false)) = some r := by rw [if_pos rfl] at H; exact H
        clear H
        have H := H1
        clear H1
        by_cases c6 : (fcmp .neq .f64 a0 a0) = true
        · rw [if_pos c6] at H
          have c6b0 : (fcmp .neq .f64 a0 a0) = true := c6
          clear c6
          obtain rfl := Option.some.inj H
          go_wp2
          go_ret
          exact ⟨by first | rfl | (simp; done) | (simp [*]; done), by repeat (first | exact Drawn0.refl _ | apply Drawn0.step)⟩
        · rw [if_neg c6] at H
          have c6b0 : (fcmp .neq .f64 a0 a0) = false := by simpa using c6
          clear c6
          obtain rfl := Option.some.inj H
          go_wp2
          go_ret
          exact ⟨by first | rfl | (simp; done) | (simp [*]; done), by repeat (first | exact Drawn0.refl _ | apply Drawn0.step)⟩
      · replace c5 := Bool.eq_false_iff.mpr c5
        subst c5
        have H1 : (if (fcmp .eql .f64 a0 (cn .f64 0)) = true then (if (fcmp .eql .f64 a1 (cn .f64 0)) = true then (some ((fcmp .gtr .f64 (fop .quo .f64 (cn .f64 4607182418800017408) a0) (cn .f64 0)) == (fcmp .gtr .f64 (fop .quo .f64 (cn .f64 4607182418800017408) a1) (cn .f64 0)))) else (some (fcmp .eql .f64 a0 a1))) else (some (fcmp .eql .f64 a0 a1))) = some r := by rw [if_neg (show ¬ (false = true) by decide)] at H; exact H
        clear H
        have H := H1
        clear H1
        by_cases c7 : (fcmp .eql .f64 a0 (cn .f64 0)) = true
        · rw [if_pos c7] at H
          have c7b0 : (fcmp .eql .f64 a0 (cn .f64 0)) = true := c7
          clear c7
          by_cases c8 : (fcmp .eql .f64 a1 (cn .f64 0)) = true
          · rw [if_pos c8] at H
            have c8b0 : (fcmp .eql .f64 a1 (cn .f64 0)) = true := c8
            clear c8
            obtain ⟨ft106, hft106⟩ : ∃ y_ : Fl, y_ = (fop .quo .f64 (cn .f64 4607182418800017408) a0) := ⟨_, rfl⟩
            replace H : (some ((fcmp .gtr .f64 ft106 (cn .f64 0)) == (fcmp .gtr .f64 (fop .quo .f64 (cn .f64 4607182418800017408) a1) (cn .f64 0)))) = some r := by first | (rw [hft106]; with_reducible exact H) | (have H2_ := (Option.bind_some _ _).symm.trans H; rw [hft106]; with_reducible exact H2_) | (have H2_ := (Option.bind_some _ _).symm.trans H; with_reducible exact H2_) | with_reducible exact H | (rw [hft106]; exact H) | exact H
            have Nft106 := Aside0.mk hft106
            clear hft106
            obtain ⟨ft107, hft107⟩ : ∃ y_ : Fl, y_ = (fop .quo .f64 (cn .f64 4607182418800017408) a1) := ⟨_, rfl⟩
            replace H : (some ((fcmp .gtr .f64 ft106 (cn .f64 0)) == (fcmp .gtr .f64 ft107 (cn .f64 0)))) = some r := by first | (rw [hft107]; with_reducible exact H) | (have H2_ := (Option.bind_some _ _).symm.trans H; rw [hft107]; with_reducible exact H2_) | (have H2_ := (Option.bind_some _ _).symm.trans H; with_reducible exact H2_) | with_reducible exact H | (rw [hft107]; exact H) | exact H
            have Nft107 := Aside0.mk hft107
            clear hft107
            obtain rfl := Option.some.inj H
            go_wp2_with (first | ((with_reducible refine gate_dst (N := 28) rfl ?_); refine fop_event rfl (N := 28) rfl (op := .quo) (by simp) rfl .f64 4607182418800017408 b_a0 (cn .f64 4607182418800017408) a0 rfl rfl rfl hF_a0 ?_; intro b_ft106 nf_ hF_; replace hF_ := hF_.trans Nft106.out.symm; have hF_ft106 := hF_; clear hF_) | ((with_reducible refine gate_dst (N := 31) rfl ?_); refine fop_event rfl (N := 31) rfl (op := .quo) (by simp) rfl .f64 4607182418800017408 b_a1 (cn .f64 4607182418800017408) a1 rfl rfl rfl hF_a1 ?_; intro b_ft107 nf_ hF_; replace hF_ := hF_.trans Nft107.out.symm; have hF_ft107 := hF_; clear hF_))
            go_ret
            exact ⟨by first | rfl | (simp; done) | (simp [*]; done), by repeat (first | exact Drawn0.refl _ | apply Drawn0.step)⟩
          · rw [if_neg c8] at H
            have c8b0 : (fcmp .eql .f64 a1 (cn .f64 0)) = false := by simpa using c8
            clear c8
            obtain rfl := Option.some.inj H
            go_wp2
            go_ret
            exact ⟨by first | rfl | (simp; done) | (simp [*]; done), by repeat (first | exact Drawn0.refl _ | apply Drawn0.step)⟩
        · rw [if_neg c7] at H
          have c7b0 : (fcmp .eql .f64 a0 (cn .f64 0)) = false := by simpa using c7
          clear c7
          obtain rfl := Option.some.inj H
          go_wp2
          go_ret
          exact ⟨by first | rfl | (simp; done) | (simp [*]; done), by repeat (first | exact Drawn0.refl _ | apply Drawn0.step)⟩

/-! ### laws_eqFloat64S: function 18 -/
def laws_eqFloat64S.l0 : Nat → List (Fl) → List (Fl) → Int → Option (Bool)
  | 0, _, _, _ => none
  | k + 1, x0, x1, x5 => if x5 < (x0.length : Int) then (if 0 ≤ x5 then (if x5 < (x1.length : Int) then ((laws_sameFloat.f k (rdf .f64 x0 x5) (rdf .f64 x1 x5)).bind fun t110 => (if t110 = true then (laws_eqFloat64S.l0 k x0 x1 (wrap64 (x5 + 1))) else (some false))) else (none)) else (none)) else (some true)
def laws_eqFloat64S.f (k : Nat) (l0 : List (Fl)) (l1 : List (Fl)) : Option (Bool) := if (l0.length : Int) = (l1.length : Int) then (laws_eqFloat64S.l0 k l0 l1 0) else (some false)
theorem laws_eqFloat64S.mono_l : ∀ k, (∀ y0 y1 y2, LeO (laws_eqFloat64S.l0 k y0 y1 y2) (laws_eqFloat64S.l0 (k + 1) y0 y1 y2))
  | 0 => fun _ _ _ r h => by simp [laws_eqFloat64S.l0] at h
  | k + 1 => by
    have ih0 := laws_eqFloat64S.mono_l k
    · intro y0 y1 y2
      unfold laws_eqFloat64S.l0
      repeat' first
      | (with_reducible exact ih0 _ _ _)
      | (with_reducible exact laws_sameFloat.mono _ _ _)
      | (with_reducible exact LeO.refl _)
      | (with_reducible exact LeO.none _)
      | (with_reducible refine LeO.ite ?_ ?_)
      | (with_reducible refine LeO.bind ?_ (fun _ => ?_))
      | exact ih0 _ _ _
      | exact laws_sameFloat.mono _ _ _
      | exact LeO.none _
      | refine LeO.ite ?_ ?_
      | refine LeO.bind ?_ (fun _ => ?_)
theorem laws_eqFloat64S.mono : ∀ a0 a1 k, LeO (laws_eqFloat64S.f k a0 a1) (laws_eqFloat64S.f (k + 1) a0 a1) := by
  intro a0 a1 k
  have ih0 := laws_eqFloat64S.mono_l k
  unfold laws_eqFloat64S.f
  repeat' first
      | (with_reducible exact ih0 _ _ _)
      | (with_reducible exact laws_sameFloat.mono _ _ _)
      | (with_reducible exact LeO.refl _)
      | (with_reducible exact LeO.none _)
      | (with_reducible refine LeO.ite ?_ ?_)
      | (with_reducible refine LeO.bind ?_ (fun _ => ?_))
      | exact ih0 _ _ _
      | exact laws_sameFloat.mono _ _ _
      | exact LeO.none _
      | refine LeO.ite ?_ ?_
      | refine LeO.bind ?_ (fun _ => ?_)
set_option maxHeartbeats 8000000 in
set_option maxRecDepth 100000 in
theorem laws_eqFloat64S.calls (k : Nat) (A0 : Option Addr) (c0 : Nat) (l0 : List (Fl)) (A1 : Option Addr) (c1 : Nat) (l1 : List (Fl)) (r : Bool) (w : World) (hr0 : Kd.C (Kd.fl .f64) w A0 l0.length l0) (hc0 : l0.length ≤ c0) (hr1 : Kd.C (Kd.fl .f64) w A1 l1.length l1) (hc1 : l1.length ≤ c1) (h : laws_eqFloat64S.f k l0 l1 = some r) :
    Calls Try.prog 18 #[.slice A0 l0.length c0, .slice A1 l1.length c1] w fun e w' => e = .returned (.bool r) ∧ Drawn0 w w' := by
  have HR0 := Aside0.mk hr0
  have HC0 := Aside0.mk hc0
  clear hr0 hc0
  have HR1 := Aside0.mk hr1
  have HC1 := Aside0.mk hc1
  clear hr1 hc1
  have H : (if (l0.length : Int) = (l1.length : Int) then (laws_eqFloat64S.l0 k l0 l1 0) else (some false)) = some r := h
  clear h
  by_cases c3 : (l0.length : Int) = (l1.length : Int)
  · rw [if_pos c3] at H
    have c3b0 : ((l0.length : Int) == (l1.length : Int)) = true := beq_iff_eq.mpr c3
    have c3b1 : ((l0.length : Int) != (l1.length : Int)) = false := bne_eq_false_iff_eq.mpr c3
    have c3b2 : (l0.length == l1.length) = true := by first | simpa using c3 | (simp at c3 ⊢; omega)
    clear c3
    have H' := Aside0.mk H
    clear H
    go_enter Try.func18, Try.ntmps18
    go_wp2
    repeat (go_quiet (fail); try go_wp2)
    go_loopg [5] k (fun kq v5 w' => ∃ (x5_1 : Int), v5 = .int .i64 x5_1 ∧ Aside0 (laws_eqFloat64S.l0 kq l0 l1 x5_1 = some r) ∧ Aside0 (kq ≤ k) ∧ Drawn0 w w')
    case atStart => exact ⟨(0), (by first | rfl | (simp; done) | (simp [*]; done)), H', ⟨Nat.le_refl _⟩, by repeat (first | exact Drawn0.refl _ | apply Drawn0.step)⟩
    case round =>
      clear H'
      try clear c1
      try clear p2
      try clear c3
      try clear c3b0
      try clear c3b1
      try clear c3b2
      obtain ⟨x5_1, rfl, HA, HK1, ⟨m1, rfl⟩⟩ := hrel
      cases gk with
      | zero => exact absurd HA.out (by simp [laws_eqFloat64S.l0])
      | succ k1 =>
        have H := HA.out
        clear HA
        simp only [laws_eqFloat64S.l0] at H
        by_cases c4 : x5_1 < (l0.length : Int)
        · rw [if_pos c4] at H
          have c4b0 : decide (x5_1 < (l0.length : Int)) = true := decide_eq_true c4
          clear c4
          by_cases c5 : 0 ≤ x5_1
          · rw [if_pos c5] at H
            have c5b0 : decide (0 ≤ x5_1) = true := decide_eq_true c5
            clear c5
            obtain ⟨fr108_0, hfr108_0⟩ : ∃ y_ : Fl, y_ = (rdf .f64 l0 x5_1) := ⟨_, rfl⟩
            replace H : (if x5_1 < (l1.length : Int) then ((laws_sameFloat.f k1 fr108_0 (rdf .f64 l1 x5_1)).bind fun t110 => (if t110 = true then (laws_eqFloat64S.l0 k1 l0 l1 (wrap64 (x5_1 + 1))) else (some false))) else (none)) = some r := by first | (rw [hfr108_0]; with_reducible exact H) | (have H2_ := (Option.bind_some _ _).symm.trans H; rw [hfr108_0]; with_reducible exact H2_) | (have H2_ := (Option.bind_some _ _).symm.trans H; with_reducible exact H2_) | with_reducible exact H | (rw [hfr108_0]; exact H) | exact H
            have Nfr108_0 := Aside0.mk hfr108_0
            clear hfr108_0
            by_cases c6 : x5_1 < (l1.length : Int)
            · rw [if_pos c6] at H
              have c6b0 : decide (x5_1 < (l1.length : Int)) = true := decide_eq_true c6
              clear c6
              obtain ⟨fr109_0, hfr109_0⟩ : ∃ y_ : Fl, y_ = (rdf .f64 l1 x5_1) := ⟨_, rfl⟩
              replace H : ((laws_sameFloat.f k1 fr108_0 fr109_0).bind fun t110 => (if t110 = true then (laws_eqFloat64S.l0 k1 l0 l1 (wrap64 (x5_1 + 1))) else (some false))) = some r := by first | (rw [hfr109_0]; with_reducible exact H) | (have H2_ := (Option.bind_some _ _).symm.trans H; rw [hfr109_0]; with_reducible exact H2_) | (have H2_ := (Option.bind_some _ _).symm.trans H; with_reducible exact H2_) | with_reducible exact H | (rw [hfr109_0]; exact H) | exact H
              have Nfr109_0 := Aside0.mk hfr109_0
              clear hfr109_0
              replace H := Option.bind_eq_some_iff.mp H
              obtain ⟨t110, A70, H⟩ := H
              replace H : (if t110 = true then (laws_eqFloat64S.l0 k1 l0 l1 (wrap64 (x5_1 + 1))) else (some false)) = some r := H
              have A7 := Aside0.mk A70
              clear A70
              by_cases c8 : t110 = true
              · subst c8
                have H1 : (laws_eqFloat64S.l0 k1 l0 l1 (wrap64 (x5_1 + 1))) = some r := by rw [if_pos rfl] at H; exact H
                clear H
                have H := H1
                clear H1
                have H' := Aside0.mk H
                clear H
                have p108 : 0 ≤ (x5_1 : Int) := of_decide_eq_true (by first | (with_reducible assumption) | assumption)
                have q108 : x5_1 < (l0.length : Int) := of_decide_eq_true (by first | (with_reducible assumption) | assumption)
                obtain ⟨ad108, b_fr108_0, e108, hx108_0, hF108_0⟩ := Kd.at_fl HR0.out x5_1 p108 q108
                have hF_fr108_0 := hF108_0.trans Nfr108_0.out.symm
                clear hF108_0
                cases e108
                replace p108 := eq_true p108
                replace q108 := eq_true q108
                have p109 : 0 ≤ (x5_1 : Int) := of_decide_eq_true (by first | (with_reducible assumption) | assumption)
                have q109 : x5_1 < (l1.length : Int) := of_decide_eq_true (by first | (with_reducible assumption) | assumption)
                obtain ⟨ad109, b_fr109_0, e109, hx109_0, hF109_0⟩ := Kd.at_fl HR1.out x5_1 p109 q109
                have hF_fr109_0 := hF109_0.trans Nfr109_0.out.symm
                clear hF109_0
                cases e109
                replace p109 := eq_true p109
                replace q109 := eq_true q109
                go_wp2_with (first | (go_at_call 17; (with_reducible refine (laws_sameFloat.calls k1 b_fr108_0 fr108_0 b_fr109_0 fr109_0 true _ ?side1 ?side2 A7.out).mono ?_); (case side1 => exact hF_fr108_0); (case side2 => exact hF_fr109_0); rintro e w' ⟨rfl, ⟨nd, rfl⟩⟩; (try first | exact ⟨rfl, _, World.drewN_drewN _ _ _⟩ | exact ⟨rfl, _, Eq.trans (World.drewN_drewN _ _ _) (congrArg (World.drewN _) (Nat.add_assoc _ _ _))⟩)))
                repeat (go_quiet (first | (go_at_call 17; (with_reducible refine (laws_sameFloat.calls k1 b_fr108_0 fr108_0 b_fr109_0 fr109_0 true _ ?side1 ?side2 A7.out).mono ?_); (case side1 => exact hF_fr108_0); (case side2 => exact hF_fr109_0); rintro e w' ⟨rfl, ⟨nd, rfl⟩⟩; (try first | exact ⟨rfl, _, World.drewN_drewN _ _ _⟩ | exact ⟨rfl, _, Eq.trans (World.drewN_drewN _ _ _) (congrArg (World.drewN _) (Nat.add_assoc _ _ _))⟩))); try go_wp2_with (first | (go_at_call 17; (with_reducible refine (laws_sameFloat.calls k1 b_fr108_0 fr108_0 b_fr109_0 fr109_0 true _ ?side1 ?side2 A7.out).mono ?_); (case side1 => exact hF_fr108_0); (case side2 => exact hF_fr109_0); rintro e w' ⟨rfl, ⟨nd, rfl⟩⟩; (try first | exact ⟨rfl, _, World.drewN_drewN _ _ _⟩ | exact ⟨rfl, _, Eq.trans (World.drewN_drewN _ _ _) (congrArg (World.drewN _) (Nat.add_assoc _ _ _))⟩))))
                go_roundg k1
                case measure => have := HK1.out; omega
                case rel => exact ⟨(wrap64 (x5_1 + 1)), (by first | rfl | (simp; done) | (simp [*]; done)), H', ⟨by have := HK1.out; omega⟩, by repeat (first | exact Drawn0.refl _ | apply Drawn0.step)⟩
              · replace c8 := Bool.eq_false_iff.mpr c8
                subst c8
                have H1 : (some false) = some r := by rw [if_neg (show ¬ (false = true) by decide)] at H; exact H
                clear H
                have H := H1
                clear H1
                obtain rfl := Option.some.inj H
                have p108 : 0 ≤ (x5_1 : Int) := of_decide_eq_true (by first | (with_reducible assumption) | assumption)
                have q108 : x5_1 < (l0.length : Int) := of_decide_eq_true (by first | (with_reducible assumption) | assumption)
                obtain ⟨ad108, b_fr108_0, e108, hx108_0, hF108_0⟩ := Kd.at_fl HR0.out x5_1 p108 q108
                have hF_fr108_0 := hF108_0.trans Nfr108_0.out.symm
                clear hF108_0
                cases e108
                replace p108 := eq_true p108
                replace q108 := eq_true q108
                have p109 : 0 ≤ (x5_1 : Int) := of_decide_eq_true (by first | (with_reducible assumption) | assumption)
                have q109 : x5_1 < (l1.length : Int) := of_decide_eq_true (by first | (with_reducible assumption) | assumption)
                obtain ⟨ad109, b_fr109_0, e109, hx109_0, hF109_0⟩ := Kd.at_fl HR1.out x5_1 p109 q109
                have hF_fr109_0 := hF109_0.trans Nfr109_0.out.symm
                clear hF109_0
                cases e109
                replace p109 := eq_true p109
                replace q109 := eq_true q109
                go_wp2_with (first | (go_at_call 17; (with_reducible refine (laws_sameFloat.calls k1 b_fr108_0 fr108_0 b_fr109_0 fr109_0 false _ ?side1 ?side2 A7.out).mono ?_); (case side1 => exact hF_fr108_0); (case side2 => exact hF_fr109_0); rintro e w' ⟨rfl, ⟨nd, rfl⟩⟩; (try first | exact ⟨rfl, _, World.drewN_drewN _ _ _⟩ | exact ⟨rfl, _, Eq.trans (World.drewN_drewN _ _ _) (congrArg (World.drewN _) (Nat.add_assoc _ _ _))⟩)))
                repeat (go_quiet (first | (go_at_call 17; (with_reducible refine (laws_sameFloat.calls k1 b_fr108_0 fr108_0 b_fr109_0 fr109_0 false _ ?side1 ?side2 A7.out).mono ?_); (case side1 => exact hF_fr108_0); (case side2 => exact hF_fr109_0); rintro e w' ⟨rfl, ⟨nd, rfl⟩⟩; (try first | exact ⟨rfl, _, World.drewN_drewN _ _ _⟩ | exact ⟨rfl, _, Eq.trans (World.drewN_drewN _ _ _) (congrArg (World.drewN _) (Nat.add_assoc _ _ _))⟩))); try go_wp2_with (first | (go_at_call 17; (with_reducible refine (laws_sameFloat.calls k1 b_fr108_0 fr108_0 b_fr109_0 fr109_0 false _ ?side1 ?side2 A7.out).mono ?_); (case side1 => exact hF_fr108_0); (case side2 => exact hF_fr109_0); rintro e w' ⟨rfl, ⟨nd, rfl⟩⟩; (try first | exact ⟨rfl, _, World.drewN_drewN _ _ _⟩ | exact ⟨rfl, _, Eq.trans (World.drewN_drewN _ _ _) (congrArg (World.drewN _) (Nat.add_assoc _ _ _))⟩))))
                go_ret
                exact ⟨by first | rfl | (simp; done) | (simp [*]; done), by repeat (first | exact Drawn0.refl _ | apply Drawn0.step)⟩
            · rw [if_neg c6] at H
              exact absurd H (by simp)
          · rw [if_neg c5] at H
            exact absurd H (by simp)
        · rw [if_neg c4] at H
          have c4b0 : decide (x5_1 < (l0.length : Int)) = false := decide_eq_false c4
          clear c4
          obtain rfl := Option.some.inj H
          go_wp2
          repeat (go_quiet (fail); try go_wp2)
          go_ret
          exact ⟨by first | rfl | (simp; done) | (simp [*]; done), by repeat (first | exact Drawn0.refl _ | apply Drawn0.step)⟩
  · rw [if_neg c3] at H
    have c3b0 : ((l0.length : Int) == (l1.length : Int)) = false := beq_eq_false_iff_ne.mpr c3
    have c3b1 : ((l0.length : Int) != (l1.length : Int)) = true := bne_iff_ne.mpr c3
    have c3b2 : (l0.length == l1.length) = false := by first | simpa using c3 | (simp at c3 ⊢; omega)
    obtain rfl := Option.some.inj H
    go_enter Try.func18, Try.ntmps18
    go_wp2
    repeat (go_quiet (fail); try go_wp2)
    go_ret
    exact ⟨by first | rfl | (simp; done) | (simp [*]; done), by repeat (first | exact Drawn0.refl _ | apply Drawn0.step)⟩

/-! ### laws_markFloat64S: function 35 -/
def laws_markFloat64S.l0 : Nat → List (Fl) → Int → Int → Option (Int × (List (Fl)))
  | 0, _, _, _ => none
  | k + 1, x0, x1, x5 => if x5 < (x0.length : Int) then (if 0 ≤ x5 then (laws_markFloat64S.l0 k (x0.set (x5 : Int).toNat (fint .f64 x1)) (wrap64 (x1 + 1)) (wrap64 (x5 + 1))) else (none)) else (some (x1, x0))
def laws_markFloat64S.f (k : Nat) (l0 : List (Fl)) (a1 : Int) : Option (Int × (List (Fl))) := laws_markFloat64S.l0 k l0 a1 0
theorem laws_markFloat64S.mono_l : ∀ k, (∀ y0 y1 y2, LeO (laws_markFloat64S.l0 k y0 y1 y2) (laws_markFloat64S.l0 (k + 1) y0 y1 y2))
  | 0 => fun _ _ _ r h => by simp [laws_markFloat64S.l0] at h
  | k + 1 => by
    have ih0 := laws_markFloat64S.mono_l k
    · intro y0 y1 y2
      unfold laws_markFloat64S.l0
      repeat' first
      | (with_reducible exact ih0 _ _ _)
      | (with_reducible exact LeO.refl _)
      | (with_reducible exact LeO.none _)
      | (with_reducible refine LeO.ite ?_ ?_)
      | (with_reducible refine LeO.bind ?_ (fun _ => ?_))
      | exact ih0 _ _ _
      | exact LeO.none _
      | refine LeO.ite ?_ ?_
      | refine LeO.bind ?_ (fun _ => ?_)
theorem laws_markFloat64S.mono : ∀ a0 a1 k, LeO (laws_markFloat64S.f k a0 a1) (laws_markFloat64S.f (k + 1) a0 a1) := by
  intro a0 a1 k
  have ih0 := laws_markFloat64S.mono_l k
  unfold laws_markFloat64S.f
  repeat' first
      | (with_reducible exact ih0 _ _ _)
      | (with_reducible exact LeO.refl _)
      | (with_reducible exact LeO.none _)
      | (with_reducible refine LeO.ite ?_ ?_)
      | (with_reducible refine LeO.bind ?_ (fun _ => ?_))
      | exact ih0 _ _ _
      | exact LeO.none _
      | refine LeO.ite ?_ ?_
      | refine LeO.bind ?_ (fun _ => ?_)
set_option maxHeartbeats 8000000 in
set_option maxRecDepth 100000 in
theorem laws_markFloat64S.calls (k : Nat) (P0_ : Nat → Prop) (u9000_ : Value) (l0 : List (Fl)) (a1 : Int) (r1 : Int) (r2 : List (Fl)) (w0 w : World) (hB : Below w0.heap.size w0 w) (ho0 : Kd.R (Kd.fl .f64) 23 w w0.heap.size P0_ u9000_ l0) (h : laws_markFloat64S.f k l0 a1 = some (r1, r2)) :
    Calls Try.prog 35 #[u9000_, .int .i64 a1] w fun e w' => e = .returned (.int .i64 r1) ∧ Kd.R (Kd.fl .f64) 23 w' w0.heap.size (fun k_ => (P0_ k_ ∨ w.heap.size ≤ k_)) u9000_ r2 ∧ Below w0.heap.size w0 w' ∧ Kept w w' (fun k_ => P0_ k_) := by
  have HO0 := Aside0.mk (show Kd.R (Kd.fl .f64) 23 w w0.heap.size (fun k_ => (P0_ k_ ∨ w.heap.size ≤ k_)) u9000_ l0 from Kd.R_mono ho0 (fun k_ hk => (.inl hk)))
  have HK := Aside0.mk (Kept.refl w (fun k_ => P0_ k_))
  have HW0 := Aside0.mk hB.size
  have HB := Aside0.mk hB
  clear hB
  have H : (laws_markFloat64S.l0 k l0 a1 0) = some (r1, r2) := h
  clear h
  have H' := Aside0.mk H
  clear H
  go_enter Try.func35, Try.ntmps35
  go_wp2
  go_loopg [1, 5] k (fun kq v1 v5 w' => ∃ (x0_1 : List (Fl)) (x1_1 : Int) (x5_1 : Int), v1 = .int .i64 x1_1 ∧ v5 = .int .i64 x5_1 ∧ Aside0 (laws_markFloat64S.l0 kq x0_1 x1_1 x5_1 = some (r1, r2)) ∧ Aside0 (kq ≤ k) ∧ Aside0 (Kd.R (Kd.fl .f64) 23 w' w0.heap.size (fun k_ => (P0_ k_ ∨ w.heap.size ≤ k_)) u9000_ x0_1) ∧ Aside0 (Kept w w' (fun k_ => P0_ k_)) ∧ Aside0 (Below w0.heap.size w0 w'))
  case atStart => exact ⟨(l0), (a1), (0), (by first | rfl | (simp; done) | (simp [*]; done)), (by first | rfl | (simp; done) | (simp [*]; done)), H', ⟨Nat.le_refl _⟩, ⟨by (with_reducible repeat (first | apply Kd.R_alloc | apply Kd.R_drewN | apply Kd.R_drew)); exact HO0.out⟩, ⟨by repeat (first | (with_reducible first | exact HK.out | apply Kept.alloc | apply Kept.drewN | apply Kept.drew) | exact HK.out)⟩, ⟨by repeat (first | (with_reducible first | exact HB.out | apply below_alloc | apply pw_below_drewN | apply below_drew1) | exact HB.out)⟩⟩
  case round =>
    clear H'
    try clear p2
    obtain ⟨x0_1, x1_1, x5_1, rfl, rfl, HA, HK1, HO_0, HK, HB⟩ := hrel
    cases gk with
    | zero => exact absurd HA.out (by simp [laws_markFloat64S.l0])
    | succ k1 =>
      have H := HA.out
      clear HA
      simp only [laws_markFloat64S.l0] at H
      by_cases c3 : x5_1 < (x0_1.length : Int)
      · rw [if_pos c3] at H
        have c3b0 : decide (x5_1 < (x0_1.length : Int)) = true := decide_eq_true c3
        clear c3
        obtain ⟨ft111, hft111⟩ : ∃ y_ : Fl, y_ = (fint .f64 x1_1) := ⟨_, rfl⟩
        replace H : (if 0 ≤ x5_1 then (laws_markFloat64S.l0 k1 (x0_1.set (x5_1 : Int).toNat ft111) (wrap64 (x1_1 + 1)) (wrap64 (x5_1 + 1))) else (none)) = some (r1, r2) := by first | (rw [hft111]; with_reducible exact H) | (have H2_ := (Option.bind_some _ _).symm.trans H; rw [hft111]; with_reducible exact H2_) | (have H2_ := (Option.bind_some _ _).symm.trans H; with_reducible exact H2_) | with_reducible exact H | (rw [hft111]; exact H) | exact H
        have Nft111 := Aside0.mk hft111
        clear hft111
        by_cases c4 : 0 ≤ x5_1
        · rw [if_pos c4] at H
          have c4b0 : decide (0 ≤ x5_1) = true := decide_eq_true c4
          clear c4
          obtain ⟨y112, hy112⟩ : ∃ y_ : List (Fl), y_ = (x0_1.set (x5_1 : Int).toNat ft111) := ⟨_, rfl⟩
          replace H : (laws_markFloat64S.l0 k1 y112 (wrap64 (x1_1 + 1)) (wrap64 (x5_1 + 1))) = some (r1, r2) := by first | (rw [hy112]; with_reducible exact H) | (have H2_ := (Option.bind_some _ _).symm.trans H; rw [hy112]; with_reducible exact H2_) | (have H2_ := (Option.bind_some _ _).symm.trans H; with_reducible exact H2_) | with_reducible exact H | (rw [hy112]; exact H) | exact H
          have Ny112 := Aside0.mk hy112
          clear hy112
          have H' := Aside0.mk H
          clear H
          obtain ⟨Ao6, co6, eo6⟩ := Kd.R_slice HO_0.out
          subst eo6
          go_wp2_with (first | ((with_reducible refine gate_dst (N := 15) rfl ?_); refine fint_event rfl (N := 15) rfl rfl .f64 .i64 x1_1 Try.underlying3 Try.underlying23 rfl ?_; intro b_ft111 nf_ hF_; replace hF_ := hF_.trans Nft111.out.symm; have hF_ft111 := hF_; clear hF_; (try (rw [drewN_self wr]; generalize hq_ : World.drewN wr _ = wr; have n0_ : Aside0 (Kd.R (Kd.fl .f64) 23 wr w0.heap.size (fun k_ => (P0_ k_ ∨ w.heap.size ≤ k_)) (.slice Ao6 x0_1.length co6) x0_1) := ⟨by rw [← hq_]; exact (by (with_reducible repeat (first | apply Kd.R_alloc | apply Kd.R_drewN | apply Kd.R_drew)); exact HO_0.out)⟩; have n1_ : Aside0 (Kept w wr (fun k_ => P0_ k_)) := ⟨by rw [← hq_]; exact (by repeat (first | (with_reducible first | exact HK.out | apply Kept.alloc | apply Kept.drewN | apply Kept.drew) | exact HK.out))⟩; have n2_ : Aside0 (Below w0.heap.size w0 wr) := ⟨by rw [← hq_]; exact (by repeat (first | (with_reducible first | exact HB.out | apply below_alloc | apply pw_below_drewN | apply below_drew1) | exact HB.out))⟩; clear HO_0 HK HB hq_; have HO_0 := n0_; have HK := n1_; have HB := n2_; clear n0_ n1_ n2_)); have p5 : 0 ≤ (x5_1 : Int) := of_decide_eq_true (by first | (with_reducible assumption) | assumption); have q5 : (x5_1 : Int) < ((x0_1.length : Int) : Int) := of_decide_eq_true (by first | (with_reducible assumption) | assumption); obtain ⟨go5, co5, eo5, gb5, gl5, cl5, HG5⟩ := Kd.R_form HO_0.out (by omega); (first | cases eo5 | (injection eo5 with ea_ en_ ec_; (first | subst ea_ | (injection ea_ with ea_; subst ea_)); subst ec_; clear en_)); have GB5 := Aside0.mk gb5; have GG5 := Aside0.mk HG5; clear gb5 gl5 HG5; have HMgo5 := Aside0.mk (show (P0_ go5 ∨ w.heap.size ≤ go5) from (HO_0.out.1 _ rfl)); obtain ⟨ce5, hcl5, hM5, hcc5, hfr5⟩ := Kd.R_elem HO_0.out (cn .f64 0) (x5_1 : Int) p5 q5; obtain ⟨b_fr5_0, rfl, hF5_0⟩ := hM5; have hx5_0 := hcc5 0 _ rfl; have hf5_0 := hfr5 0; (try simp only [show ((Kd.fl .f64)).sz = 1 from rfl, Nat.mul_one, Nat.add_zero] at hx5_0); (try simp only [show ((Kd.fl .f64)).sz = 1 from rfl, Nat.mul_one, Nat.add_zero] at hf5_0); clear hcl5 hcc5 hfr5; (try clear hM5); replace p5 := eq_true p5; replace q5 := eq_true q5; have HX7 := Aside0.mk (show Kd.R (Kd.fl .f64) 23 wr w0.heap.size (fun k_ => (P0_ k_ ∨ w.heap.size ≤ k_)) (.slice (some ⟨go5, 0, none⟩) x0_1.length co6) x0_1 from (by (with_reducible repeat (first | apply Kd.R_alloc | apply Kd.R_drewN | apply Kd.R_drew)); exact HO_0.out)); obtain ⟨ce7, hcl7, hM7, hcc7, hfr7⟩ := Kd.R_elem HX7.out (cn .f64 0) (x5_1 : Int) (of_decide_eq_true (by first | (with_reducible assumption) | assumption)) (by have h_ : (x5_1 : Int) < ((x0_1.length : Int) : Int) := of_decide_eq_true (by first | (with_reducible assumption) | assumption); first | exact h_ | (have e_ := (Kd.R_reads' HO_0.out).1; omega) | simpa using h_); obtain ⟨b_fr7_0, rfl, hF7_0⟩ := hM7; have HP7 := Kd.R_seg HX7.out (x5_1 : Int) (of_decide_eq_true (by first | (with_reducible assumption) | assumption)) (by have h_ : (x5_1 : Int) < ((x0_1.length : Int) : Int) := of_decide_eq_true (by first | (with_reducible assumption) | assumption); first | exact h_ | (have e_ := (Kd.R_reads' HO_0.out).1; omega) | simpa using h_) (seg := [.float .f64 b_ft111]) (j := 0) hcl7 hcc7 (show 1 ≤ 1 from by decide) (x' := ft111) (Kd.M_fl hF_ft111) (fun _ hk => hk); have hx7_0 := hcc7 0 _ rfl; (try simp only [show ((Kd.fl .f64)).sz = 1 from rfl, Nat.mul_one, Nat.add_zero] at hx7_0); have hf7_0 := hfr7 0; (try simp only [show ((Kd.fl .f64)).sz = 1 from rfl, Nat.mul_one, Nat.add_zero] at hf7_0); clear hcl7 hcc7 hfr7; (try clear hM7); (try simp only [show ((Kd.fl .f64)).sz = 1 from rfl, Nat.mul_one, Nat.add_zero] at HP7)) | ((with_reducible refine gate_store (t := 23) (p := 16) rfl ?_); refine store_event (t := 23) (p := 16) (v := ?vo_w8) (w1 := (wr.setCell ⟨go5, (x5_1 : Int).toNat, none⟩ (.float .f64 b_ft111))) ?hg ?ho ?hn ?hr ?_; (case ho => rfl); (case hg => rfl); (case hn => rfl); (case hr => first | (go_simp; done) | (go_simp; rfl)); intro w8 hw; have hg : wr.grownBy w8 (some go5) := (by rw [hw]; exact HP7.2); have hp_ : Kd.R (Kd.fl .f64) 23 w8 w0.heap.size (fun k_ => (P0_ k_ ∨ w.heap.size ≤ k_)) (.slice (some ⟨go5, 0, none⟩) x0_1.length co6) y112 := (by rw [hw, Ny112.out]; exact HP7.1); clear HP7; have n0_ := Aside0.mk (hp_); have n1_ := Aside0.mk ((by rw [hw]; exact below_set (HB.out) GB5.out : Below w0.heap.size w0 w8)); have n2_ := Aside0.mk (Kept.of_grown (S := (fun k_ => P0_ k_)) hg (by repeat (first | (with_reducible first | exact HK.out | apply Kept.alloc | apply Kept.drewN | apply Kept.drew) | exact HK.out)) (fun k_ e_ => (HO_0.out.1 k_ e_))); clear HO_0; clear HB; clear HK; have HO_0 := n0_; have HB := n1_; have HK := n2_; clear n0_ n1_ n2_; clear hg hw hp_))
          go_roundg k1
          case measure => have := HK1.out; omega
          case rel => exact ⟨(y112), (wrap64 (x1_1 + 1)), (wrap64 (x5_1 + 1)), (by first | rfl | (simp; done) | (simp [*]; done)), (by first | rfl | (simp; done) | (simp [*]; done)), H', ⟨by have := HK1.out; omega⟩, ⟨by (with_reducible repeat (first | apply Kd.R_alloc | apply Kd.R_drewN | apply Kd.R_drew)); exact HO_0.out⟩, ⟨by repeat (first | (with_reducible first | exact HK.out | apply Kept.alloc | apply Kept.drewN | apply Kept.drew) | exact HK.out)⟩, ⟨by repeat (first | (with_reducible first | exact HB.out | apply below_alloc | apply pw_below_drewN | apply below_drew1) | exact HB.out)⟩⟩
        · rw [if_neg c4] at H
          exact absurd H (by simp)
      · rw [if_neg c3] at H
        have c3b0 : decide (x5_1 < (x0_1.length : Int)) = false := decide_eq_false c3
        clear c3
        simp only [Option.some.injEq, Prod.mk.injEq] at H
        obtain ⟨rfl, rfl⟩ := H
        obtain ⟨Ao9, co9, eo9⟩ := Kd.R_slice HO_0.out
        subst eo9
        go_wp2
        go_ret
        exact ⟨by first | rfl | (simp [errW_none, errW_some] <;> rfl) | (simp [*, errW_none, errW_some] <;> rfl), by (with_reducible repeat (first | apply Kd.R_alloc | apply Kd.R_drewN | apply Kd.R_drew)); exact HO_0.out, by repeat (first | (with_reducible first | exact HB.out | apply below_alloc | apply pw_below_drewN | apply below_drew1) | exact HB.out), by repeat (first | (with_reducible first | exact HK.out | apply Kept.alloc | apply Kept.drewN | apply Kept.drew) | exact HK.out)⟩

/-! ### spec_StepOnce: function 79 -/
def spec_StepOnce.f (a0_0 : Fl) (a0_1 : Fl) (a0_2 : Fl) (a0_3 : Fl) (a1_0 : Fl) (a1_1 : Fl) (a1_2 : Fl) (a1_3 : Fl) (a1_4 : Fl) (a2 : Fl) (a3 : Fl) : Option (Fl × Fl × Fl × Fl) := some ((fop .add .f64 a0_0 (fop .mul .f64 (fop .sub .f64 (fop .sub .f64 a1_0 (fop .mul .f64 a1_1 (fop .mul .f64 a0_0 a0_0))) (fop .mul .f64 a1_4 a0_2)) a3)), (fop .add .f64 a0_1 (fop .mul .f64 (fop .mul .f64 a0_0 a0_2) a3)), (fop .add .f64 a0_2 (fop .mul .f64 a0_3 a3)), (fop .add .f64 a0_3 (fop .mul .f64 (fop .sub .f64 a2 (fop .mul .f64 a1_3 a0_3)) a3)))
set_option maxHeartbeats 8000000 in
set_option maxRecDepth 100000 in
theorem spec_StepOnce.calls (b_a0_0 : Nat) (a0_0 : Fl) (b_a0_1 : Nat) (a0_1 : Fl) (b_a0_2 : Nat) (a0_2 : Fl) (b_a0_3 : Nat) (a0_3 : Fl) (b_a1_0 : Nat) (a1_0 : Fl) (b_a1_1 : Nat) (a1_1 : Fl) (b_a1_2 : Nat) (a1_2 : Fl) (b_a1_3 : Nat) (a1_3 : Fl) (b_a1_4 : Nat) (a1_4 : Fl) (b_a2 : Nat) (a2 : Fl) (b_a3 : Nat) (a3 : Fl) (r1 : Fl) (r2 : Fl) (r3 : Fl) (r4 : Fl) (w : World) (hF_a0_0 : cn .f64 b_a0_0 = a0_0) (hF_a0_1 : cn .f64 b_a0_1 = a0_1) (hF_a0_2 : cn .f64 b_a0_2 = a0_2) (hF_a0_3 : cn .f64 b_a0_3 = a0_3) (hF_a1_0 : cn .f64 b_a1_0 = a1_0) (hF_a1_1 : cn .f64 b_a1_1 = a1_1) (hF_a1_2 : cn .f64 b_a1_2 = a1_2) (hF_a1_3 : cn .f64 b_a1_3 = a1_3) (hF_a1_4 : cn .f64 b_a1_4 = a1_4) (hF_a2 : cn .f64 b_a2 = a2) (hF_a3 : cn .f64 b_a3 = a3) (h : spec_StepOnce.f a0_0 a0_1 a0_2 a0_3 a1_0 a1_1 a1_2 a1_3 a1_4 a2 a3 = some (r1, r2, r3, r4)) :
    Calls Try.prog 79 #[.agg #[.float .f64 b_a0_0, .float .f64 b_a0_1, .float .f64 b_a0_2, .float .f64 b_a0_3], .agg #[.float .f64 b_a1_0, .float .f64 b_a1_1, .float .f64 b_a1_2, .float .f64 b_a1_3, .float .f64 b_a1_4], .float .f64 b_a2, .float .f64 b_a3] w fun e w' => ∃ b_r1 b_r2 b_r3 b_r4 : Nat, e = .returned (.agg #[.float .f64 b_r1, .float .f64 b_r2, .float .f64 b_r3, .float .f64 b_r4]) ∧ cn .f64 b_r1 = r1 ∧ cn .f64 b_r2 = r2 ∧ cn .f64 b_r3 = r3 ∧ cn .f64 b_r4 = r4 ∧ Below w.heap.size w w' := by
  have hu66 := Try.underlying66
  have hu68 := Try.underlying68
  have HB := Aside0.mk (Below.refl w.heap.size w)
  have H : (some ((fop .add .f64 a0_0 (fop .mul .f64 (fop .sub .f64 (fop .sub .f64 a1_0 (fop .mul .f64 a1_1 (fop .mul .f64 a0_0 a0_0))) (fop .mul .f64 a1_4 a0_2)) a3)), (fop .add .f64 a0_1 (fop .mul .f64 (fop .mul .f64 a0_0 a0_2) a3)), (fop .add .f64 a0_2 (fop .mul .f64 a0_3 a3)), (fop .add .f64 a0_3 (fop .mul .f64 (fop .sub .f64 a2 (fop .mul .f64 a1_3 a0_3)) a3)))) = some (r1, r2, r3, r4) := h
  clear h
  obtain ⟨ft116, hft116⟩ : ∃ y_ : Fl, y_ = (fop .mul .f64 a0_0 a0_0) := ⟨_, rfl⟩
  replace H : (some ((fop .add .f64 a0_0 (fop .mul .f64 (fop .sub .f64 (fop .sub .f64 a1_0 (fop .mul .f64 a1_1 ft116)) (fop .mul .f64 a1_4 a0_2)) a3)), (fop .add .f64 a0_1 (fop .mul .f64 (fop .mul .f64 a0_0 a0_2) a3)), (fop .add .f64 a0_2 (fop .mul .f64 a0_3 a3)), (fop .add .f64 a0_3 (fop .mul .f64 (fop .sub .f64 a2 (fop .mul .f64 a1_3 a0_3)) a3)))) = some (r1, r2, r3, r4) := by first | (rw [hft116]; with_reducible exact H) | (have H2_ := (Option.bind_some _ _).symm.trans H; rw [hft116]; with_reducible exact H2_) | (have H2_ := (Option.bind_some _ _).symm.trans H; with_reducible exact H2_) | with_reducible exact H | (rw [hft116]; exact H) | exact H
  have Nft116 := Aside0.mk hft116
  clear hft116
  obtain ⟨ft117, hft117⟩ : ∃ y_ : Fl, y_ = (fop .mul .f64 a1_1 ft116) := ⟨_, rfl⟩
  replace H : (some ((fop .add .f64 a0_0 (fop .mul .f64 (fop .sub .f64 (fop .sub .f64 a1_0 ft117) (fop .mul .f64 a1_4 a0_2)) a3)), (fop .add .f64 a0_1 (fop .mul .f64 (fop .mul .f64 a0_0 a0_2) a3)), (fop .add .f64 a0_2 (fop .mul .f64 a0_3 a3)), (fop .add .f64 a0_3 (fop .mul .f64 (fop .sub .f64 a2 (fop .mul .f64 a1_3 a0_3)) a3)))) = some (r1, r2, r3, r4) := by first | (rw [hft117]; with_reducible exact H) | (have H2_ := (Option.bind_some _ _).symm.trans H; rw [hft117]; with_reducible exact H2_) | (have H2_ := (Option.bind_some _ _).symm.trans H; with_reducible exact H2_) | with_reducible exact H | (rw [hft117]; exact H) | exact H
  have Nft117 := Aside0.mk hft117
  clear hft117
  obtain ⟨ft118, hft118⟩ : ∃ y_ : Fl, y_ = (fop .mul .f64 a1_4 a0_2) := ⟨_, rfl⟩
  replace H : (some ((fop .add .f64 a0_0 (fop .mul .f64 (fop .sub .f64 (fop .sub .f64 a1_0 ft117) ft118) a3)), (fop .add .f64 a0_1 (fop .mul .f64 (fop .mul .f64 a0_0 a0_2) a3)), (fop .add .f64 a0_2 (fop .mul .f64 a0_3 a3)), (fop .add .f64 a0_3 (fop .mul .f64 (fop .sub .f64 a2 (fop .mul .f64 a1_3 a0_3)) a3)))) = some (r1, r2, r3, r4) := by first | (rw [hft118]; with_reducible exact H) | (have H2_ := (Option.bind_some _ _).symm.trans H; rw [hft118]; with_reducible exact H2_) | (have H2_ := (Option.bind_some _ _).symm.trans H; with_reducible exact H2_) | with_reducible exact H | (rw [hft118]; exact H) | exact H
  have Nft118 := Aside0.mk hft118
  clear hft118
  obtain ⟨ft119, hft119⟩ : ∃ y_ : Fl, y_ = (fop .sub .f64 a1_0 ft117) := ⟨_, rfl⟩
  replace H : (some ((fop .add .f64 a0_0 (fop .mul .f64 (fop .sub .f64 ft119 ft118) a3)), (fop .add .f64 a0_1 (fop .mul .f64 (fop .mul .f64 a0_0 a0_2) a3)), (fop .add .f64 a0_2 (fop .mul .f64 a0_3 a3)), (fop .add .f64 a0_3 (fop .mul .f64 (fop .sub .f64 a2 (fop .mul .f64 a1_3 a0_3)) a3)))) = some (r1, r2, r3, r4) := by first | (rw [hft119]; with_reducible exact H) | (have H2_ := (Option.bind_some _ _).symm.trans H; rw [hft119]; with_reducible exact H2_) | (have H2_ := (Option.bind_some _ _).symm.trans H; with_reducible exact H2_) | with_reducible exact H | (rw [hft119]; exact H) | exact H
  have Nft119 := Aside0.mk hft119
  clear hft119
  obtain ⟨ft120, hft120⟩ : ∃ y_ : Fl, y_ = (fop .sub .f64 ft119 ft118) := ⟨_, rfl⟩
  replace H : (some ((fop .add .f64 a0_0 (fop .mul .f64 ft120 a3)), (fop .add .f64 a0_1 (fop .mul .f64 (fop .mul .f64 a0_0 a0_2) a3)), (fop .add .f64 a0_2 (fop .mul .f64 a0_3 a3)), (fop .add .f64 a0_3 (fop .mul .f64 (fop .sub .f64 a2 (fop .mul .f64 a1_3 a0_3)) a3)))) = some (r1, r2, r3, r4) := by first | (rw [hft120]; with_reducible exact H) | (have H2_ := (Option.bind_some _ _).symm.trans H; rw [hft120]; with_reducible exact H2_) | (have H2_ := (Option.bind_some _ _).symm.trans H; with_reducible exact H2_) | with_reducible exact H | (rw [hft120]; exact H) | exact H
  have Nft120 := Aside0.mk hft120
  clear hft120
  obtain ⟨ft121, hft121⟩ : ∃ y_ : Fl, y_ = (fop .mul .f64 ft120 a3) := ⟨_, rfl⟩
  replace H : (some ((fop .add .f64 a0_0 ft121), (fop .add .f64 a0_1 (fop .mul .f64 (fop .mul .f64 a0_0 a0_2) a3)), (fop .add .f64 a0_2 (fop .mul .f64 a0_3 a3)), (fop .add .f64 a0_3 (fop .mul .f64 (fop .sub .f64 a2 (fop .mul .f64 a1_3 a0_3)) a3)))) = some (r1, r2, r3, r4) := by first | (rw [hft121]; with_reducible exact H) | (have H2_ := (Option.bind_some _ _).symm.trans H; rw [hft121]; with_reducible exact H2_) | (have H2_ := (Option.bind_some _ _).symm.trans H; with_reducible exact H2_) | with_reducible exact H | (rw [hft121]; exact H) | exact H
  have Nft121 := Aside0.mk hft121
  clear hft121
  obtain ⟨ft122, hft122⟩ : ∃ y_ : Fl, y_ = (fop .mul .f64 a0_0 a0_2) := ⟨_, rfl⟩
  replace H : (some ((fop .add .f64 a0_0 ft121), (fop .add .f64 a0_1 (fop .mul .f64 ft122 a3)), (fop .add .f64 a0_2 (fop .mul .f64 a0_3 a3)), (fop .add .f64 a0_3 (fop .mul .f64 (fop .sub .f64 a2 (fop .mul .f64 a1_3 a0_3)) a3)))) = some (r1, r2, r3, r4) := by first | (rw [hft122]; with_reducible exact H) | (have H2_ := (Option.bind_some _ _).symm.trans H; rw [hft122]; with_reducible exact H2_) | (have H2_ := (Option.bind_some _ _).symm.trans H; with_reducible exact H2_) | with_reducible exact H | (rw [hft122]; exact H) | exact H
  have Nft122 := Aside0.mk hft122
  clear hft122
  obtain ⟨ft123, hft123⟩ : ∃ y_ : Fl, y_ = (fop .mul .f64 ft122 a3) := ⟨_, rfl⟩
  replace H : (some ((fop .add .f64 a0_0 ft121), (fop .add .f64 a0_1 ft123), (fop .add .f64 a0_2 (fop .mul .f64 a0_3 a3)), (fop .add .f64 a0_3 (fop .mul .f64 (fop .sub .f64 a2 (fop .mul .f64 a1_3 a0_3)) a3)))) = some (r1, r2, r3, r4) := by first | (rw [hft123]; with_reducible exact H) | (have H2_ := (Option.bind_some _ _).symm.trans H; rw [hft123]; with_reducible exact H2_) | (have H2_ := (Option.bind_some _ _).symm.trans H; with_reducible exact H2_) | with_reducible exact H | (rw [hft123]; exact H) | exact H
  have Nft123 := Aside0.mk hft123
  clear hft123
  obtain ⟨ft124, hft124⟩ : ∃ y_ : Fl, y_ = (fop .mul .f64 a0_3 a3) := ⟨_, rfl⟩
  replace H : (some ((fop .add .f64 a0_0 ft121), (fop .add .f64 a0_1 ft123), (fop .add .f64 a0_2 ft124), (fop .add .f64 a0_3 (fop .mul .f64 (fop .sub .f64 a2 (fop .mul .f64 a1_3 a0_3)) a3)))) = some (r1, r2, r3, r4) := by first | (rw [hft124]; with_reducible exact H) | (have H2_ := (Option.bind_some _ _).symm.trans H; rw [hft124]; with_reducible exact H2_) | (have H2_ := (Option.bind_some _ _).symm.trans H; with_reducible exact H2_) | with_reducible exact H | (rw [hft124]; exact H) | exact H
  have Nft124 := Aside0.mk hft124
  clear hft124
  obtain ⟨ft125, hft125⟩ : ∃ y_ : Fl, y_ = (fop .mul .f64 a1_3 a0_3) := ⟨_, rfl⟩
  replace H : (some ((fop .add .f64 a0_0 ft121), (fop .add .f64 a0_1 ft123), (fop .add .f64 a0_2 ft124), (fop .add .f64 a0_3 (fop .mul .f64 (fop .sub .f64 a2 ft125) a3)))) = some (r1, r2, r3, r4) := by first | (rw [hft125]; with_reducible exact H) | (have H2_ := (Option.bind_some _ _).symm.trans H; rw [hft125]; with_reducible exact H2_) | (have H2_ := (Option.bind_some _ _).symm.trans H; with_reducible exact H2_) | with_reducible exact H | (rw [hft125]; exact H) | exact H
  have Nft125 := Aside0.mk hft125
  clear hft125
  obtain ⟨ft126, hft126⟩ : ∃ y_ : Fl, y_ = (fop .sub .f64 a2 ft125) := ⟨_, rfl⟩
  replace H : (some ((fop .add .f64 a0_0 ft121), (fop .add .f64 a0_1 ft123), (fop .add .f64 a0_2 ft124), (fop .add .f64 a0_3 (fop .mul .f64 ft126 a3)))) = some (r1, r2, r3, r4) := by first | (rw [hft126]; with_reducible exact H) | (have H2_ := (Option.bind_some _ _).symm.trans H; rw [hft126]; with_reducible exact H2_) | (have H2_ := (Option.bind_some _ _).symm.trans H; with_reducible exact H2_) | with_reducible exact H | (rw [hft126]; exact H) | exact H
  have Nft126 := Aside0.mk hft126
  clear hft126
  obtain ⟨ft127, hft127⟩ : ∃ y_ : Fl, y_ = (fop .mul .f64 ft126 a3) := ⟨_, rfl⟩
  replace H : (some ((fop .add .f64 a0_0 ft121), (fop .add .f64 a0_1 ft123), (fop .add .f64 a0_2 ft124), (fop .add .f64 a0_3 ft127))) = some (r1, r2, r3, r4) := by first | (rw [hft127]; with_reducible exact H) | (have H2_ := (Option.bind_some _ _).symm.trans H; rw [hft127]; with_reducible exact H2_) | (have H2_ := (Option.bind_some _ _).symm.trans H; with_reducible exact H2_) | with_reducible exact H | (rw [hft127]; exact H) | exact H
  have Nft127 := Aside0.mk hft127
  clear hft127
  obtain ⟨ft128, hft128⟩ : ∃ y_ : Fl, y_ = (fop .add .f64 a0_0 ft121) := ⟨_, rfl⟩
  replace H : (some (ft128, (fop .add .f64 a0_1 ft123), (fop .add .f64 a0_2 ft124), (fop .add .f64 a0_3 ft127))) = some (r1, r2, r3, r4) := by first | (rw [hft128]; with_reducible exact H) | (have H2_ := (Option.bind_some _ _).symm.trans H; rw [hft128]; with_reducible exact H2_) | (have H2_ := (Option.bind_some _ _).symm.trans H; with_reducible exact H2_) | with_reducible exact H | (rw [hft128]; exact H) | exact H
  have Nft128 := Aside0.mk hft128
  clear hft128
  obtain ⟨ft129, hft129⟩ : ∃ y_ : Fl, y_ = (fop .add .f64 a0_1 ft123) := ⟨_, rfl⟩
  replace H : (some (ft128, ft129, (fop .add .f64 a0_2 ft124), (fop .add .f64 a0_3 ft127))) = some (r1, r2, r3, r4) := by first | (rw [hft129]; with_reducible exact H) | (have H2_ := (Option.bind_some _ _).symm.trans H; rw [hft129]; with_reducible exact H2_) | (have H2_ := (Option.bind_some _ _).symm.trans H; with_reducible exact H2_) | with_reducible exact H | (rw [hft129]; exact H) | exact H
  have Nft129 := Aside0.mk hft129
  clear hft129
  obtain ⟨ft130, hft130⟩ : ∃ y_ : Fl, y_ = (fop .add .f64 a0_2 ft124) := ⟨_, rfl⟩
  replace H : (some (ft128, ft129, ft130, (fop .add .f64 a0_3 ft127))) = some (r1, r2, r3, r4) := by first | (rw [hft130]; with_reducible exact H) | (have H2_ := (Option.bind_some _ _).symm.trans H; rw [hft130]; with_reducible exact H2_) | (have H2_ := (Option.bind_some _ _).symm.trans H; with_reducible exact H2_) | with_reducible exact H | (rw [hft130]; exact H) | exact H
  have Nft130 := Aside0.mk hft130
  clear hft130
  obtain ⟨ft131, hft131⟩ : ∃ y_ : Fl, y_ = (fop .add .f64 a0_3 ft127) := ⟨_, rfl⟩
  replace H : (some (ft128, ft129, ft130, ft131)) = some (r1, r2, r3, r4) := by first | (rw [hft131]; with_reducible exact H) | (have H2_ := (Option.bind_some _ _).symm.trans H; rw [hft131]; with_reducible exact H2_) | (have H2_ := (Option.bind_some _ _).symm.trans H; with_reducible exact H2_) | with_reducible exact H | (rw [hft131]; exact H) | exact H
  have Nft131 := Aside0.mk hft131
  clear hft131
  simp only [Option.some.injEq, Prod.mk.injEq] at H
  obtain ⟨rfl, rfl, rfl, rfl⟩ := H
  go_enter Try.func79, Try.ntmps79
  go_wp2_with (first | ((with_reducible refine gate_dst (N := 4) rfl ?_); refine box_event ?hg (N := 4) ?hd (cs := #[.float .f64 b_a0_0, .float .f64 b_a0_1, .float .f64 b_a0_2, .float .f64 b_a0_3]) (t := 66) ?hr ?_; (case hd => rfl); (case hg => rfl); (case hr => first | (go_simp; done) | (go_simp; rfl)); intro gb113 hg w5 hbox hb; have n0_ := Aside0.mk (below_step (by repeat (first | (with_reducible first | exact HB.out | apply below_alloc | apply pw_below_drewN | apply below_drew1) | exact HB.out)) hb); have n1_ := Aside0.mk (hbox); have n2_ := Aside0.mk ((by rw [hg]; exact (below_size (by repeat (first | (with_reducible first | exact HB.out | apply below_alloc | apply pw_below_drewN | apply below_drew1) | exact HB.out))) : w.heap.size ≤ gb113)); have n3_ := Aside0.mk ((by rw [hg]; exact (below_size (by repeat (first | (with_reducible first | exact HB.out | apply below_alloc | apply pw_below_drewN | apply below_drew1) | exact HB.out))) : w.heap.size ≤ gb113)); clear HB; have HB := n0_; have BK113 := n1_; have GW113 := n2_; have GE113 := n3_; clear n0_ n1_ n2_ n3_; clear hb hbox hg) | ((with_reducible refine gate_dst (N := 5) rfl ?_); refine box_event ?hg (N := 5) ?hd (cs := #[.float .f64 b_a1_0, .float .f64 b_a1_1, .float .f64 b_a1_2, .float .f64 b_a1_3, .float .f64 b_a1_4]) (t := 68) ?hr ?_; (case hd => rfl); (case hg => rfl); (case hr => first | (go_simp; done) | (go_simp; rfl)); intro gb114 hg w6 hbox hb; have n0_ := Aside0.mk (blk_below (g := gb113) (o := .cells #[.float .f64 b_a0_0, .float .f64 b_a0_1, .float .f64 b_a0_2, .float .f64 b_a0_3] 66 (0, 0)) (by (with_reducible repeat (first | refine blk_drewN ?_ _ | refine blk_drew ?_ | refine blk_alloc ?_ _)); exact BK113.out) hb); have n1_ := Aside0.mk (below_step (by repeat (first | (with_reducible first | exact HB.out | apply below_alloc | apply pw_below_drewN | apply below_drew1 | refine below_set ?_ GE113.out) | exact HB.out)) hb); have n2_ := Aside0.mk (hbox); have n3_ := Aside0.mk ((by rw [hg]; exact (below_size (by repeat (first | (with_reducible first | exact HB.out | apply below_alloc | apply pw_below_drewN | apply below_drew1 | refine below_set ?_ GE113.out) | exact HB.out))) : w.heap.size ≤ gb114)); have n4_ := Aside0.mk ((by rw [hg]; exact (below_size (by repeat (first | (with_reducible first | exact HB.out | apply below_alloc | apply pw_below_drewN | apply below_drew1 | refine below_set ?_ GE113.out) | exact HB.out))) : w.heap.size ≤ gb114)); have n5_ := Aside0.mk ((by rw [hg]; exact Nat.ne_of_lt (blk_lt (g := gb113) (o := .cells #[.float .f64 b_a0_0, .float .f64 b_a0_1, .float .f64 b_a0_2, .float .f64 b_a0_3] 66 (0, 0)) (by (with_reducible repeat (first | refine blk_drewN ?_ _ | refine blk_drew ?_ | refine blk_alloc ?_ _)); exact BK113.out)) : gb113 ≠ gb114)); have n6_ := Aside0.mk ((by rw [hg]; exact Nat.ne_of_gt (blk_lt (g := gb113) (o := .cells #[.float .f64 b_a0_0, .float .f64 b_a0_1, .float .f64 b_a0_2, .float .f64 b_a0_3] 66 (0, 0)) (by (with_reducible repeat (first | refine blk_drewN ?_ _ | refine blk_drew ?_ | refine blk_alloc ?_ _)); exact BK113.out)) : gb114 ≠ gb113)); clear BK113; clear HB; have BK113 := n0_; have HB := n1_; have BK114 := n2_; have GW114 := n3_; have GE114 := n4_; have NB113_114 := n5_; have NB114_113 := n6_; clear n0_ n1_ n2_ n3_ n4_ n5_ n6_; clear hb hbox hg) | ((with_reducible refine gate_dst (N := 8) rfl ?_); refine box_event ?hg (N := 8) ?hd (cs := #[.float .f64 0, .float .f64 0, .float .f64 0, .float .f64 0]) (t := 66) ?hr ?_; (case hd => rfl); (case hg => rfl); (case hr => first | (go_simp; done) | (go_simp; rfl)); intro gb115 hg w7 hbox hb; have n0_ := Aside0.mk (blk_below (g := gb113) (o := .cells #[.float .f64 b_a0_0, .float .f64 b_a0_1, .float .f64 b_a0_2, .float .f64 b_a0_3] 66 (0, 0)) (by (with_reducible repeat (first | refine blk_drewN ?_ _ | refine blk_drew ?_ | refine blk_alloc ?_ _)); exact BK113.out) hb); have n1_ := Aside0.mk (blk_below (g := gb114) (o := .cells #[.float .f64 b_a1_0, .float .f64 b_a1_1, .float .f64 b_a1_2, .float .f64 b_a1_3, .float .f64 b_a1_4] 68 (0, 0)) (by (with_reducible repeat (first | refine blk_drewN ?_ _ | refine blk_drew ?_ | refine blk_alloc ?_ _)); exact BK114.out) hb); have n2_ := Aside0.mk (below_step (by repeat (first | (with_reducible first | exact HB.out | apply below_alloc | apply pw_below_drewN | apply below_drew1 | refine below_set ?_ GE113.out | refine below_set ?_ GE114.out) | exact HB.out)) hb); have n3_ := Aside0.mk (hbox); have n4_ := Aside0.mk ((by rw [hg]; exact (below_size (by repeat (first | (with_reducible first | exact HB.out | apply below_alloc | apply pw_below_drewN | apply below_drew1 | refine below_set ?_ GE113.out | refine below_set ?_ GE114.out) | exact HB.out))) : w.heap.size ≤ gb115)); have n5_ := Aside0.mk ((by rw [hg]; exact (below_size (by repeat (first | (with_reducible first | exact HB.out | apply below_alloc | apply pw_below_drewN | apply below_drew1 | refine below_set ?_ GE113.out | refine below_set ?_ GE114.out) | exact HB.out))) : w.heap.size ≤ gb115)); have n6_ := Aside0.mk ((by rw [hg]; exact Nat.ne_of_lt (blk_lt (g := gb113) (o := .cells #[.float .f64 b_a0_0, .float .f64 b_a0_1, .float .f64 b_a0_2, .float .f64 b_a0_3] 66 (0, 0)) (by (with_reducible repeat (first | refine blk_drewN ?_ _ | refine blk_drew ?_ | refine blk_alloc ?_ _)); exact BK113.out)) : gb113 ≠ gb115)); have n7_ := Aside0.mk ((by rw [hg]; exact Nat.ne_of_gt (blk_lt (g := gb113) (o := .cells #[.float .f64 b_a0_0, .float .f64 b_a0_1, .float .f64 b_a0_2, .float .f64 b_a0_3] 66 (0, 0)) (by (with_reducible repeat (first | refine blk_drewN ?_ _ | refine blk_drew ?_ | refine blk_alloc ?_ _)); exact BK113.out)) : gb115 ≠ gb113)); have n8_ := Aside0.mk ((by rw [hg]; exact Nat.ne_of_lt (blk_lt (g := gb114) (o := .cells #[.float .f64 b_a1_0, .float .f64 b_a1_1, .float .f64 b_a1_2, .float .f64 b_a1_3, .float .f64 b_a1_4] 68 (0, 0)) (by (with_reducible repeat (first | refine blk_drewN ?_ _ | refine blk_drew ?_ | refine blk_alloc ?_ _)); exact BK114.out)) : gb114 ≠ gb115)); have n9_ := Aside0.mk ((by rw [hg]; exact Nat.ne_of_gt (blk_lt (g := gb114) (o := .cells #[.float .f64 b_a1_0, .float .f64 b_a1_1, .float .f64 b_a1_2, .float .f64 b_a1_3, .float .f64 b_a1_4] 68 (0, 0)) (by (with_reducible repeat (first | refine blk_drewN ?_ _ | refine blk_drew ?_ | refine blk_alloc ?_ _)); exact BK114.out)) : gb115 ≠ gb114)); clear BK113; clear BK114; clear HB; have BK113 := n0_; have BK114 := n1_; have HB := n2_; have BK115 := n3_; have GW115 := n4_; have GE115 := n5_; have NB113_115 := n6_; have NB115_113 := n7_; have NB114_115 := n8_; have NB115_114 := n9_; clear n0_ n1_ n2_ n3_ n4_ n5_ n6_ n7_ n8_ n9_; clear hb hbox hg; have hnb8 := NB113_114.out; have hnc8 := NB114_113.out; have hnb9 := NB113_115.out; have hnc9 := NB115_113.out; have hcz10_0 : w7.cell? ⟨gb113, 0, none⟩ = some (.float .f64 b_a0_0) := (blk_cell BK113.out 0).trans rfl; have hcz10_1 : w7.cell? ⟨gb113, 1, none⟩ = some (.float .f64 b_a0_1) := (blk_cell BK113.out 1).trans rfl; have hcz10_2 : w7.cell? ⟨gb113, 2, none⟩ = some (.float .f64 b_a0_2) := (blk_cell BK113.out 2).trans rfl; have hcz10_3 : w7.cell? ⟨gb113, 3, none⟩ = some (.float .f64 b_a0_3) := (blk_cell BK113.out 3).trans rfl; have hfz10_0 := blk_frozen BK113.out 0; have hfz10_1 := blk_frozen BK113.out 1; have hfz10_2 := blk_frozen BK113.out 2; have hfz10_3 := blk_frozen BK113.out 3) | ((with_reducible refine gate_dst (N := 23) rfl ?_); refine fop_event rfl (N := 23) rfl (op := .mul) (by simp) rfl .f64 b_a0_0 b_a0_0 a0_0 a0_0 rfl rfl hF_a0_0 hF_a0_0 ?_; intro b_ft116 nf_ hF_; replace hF_ := hF_.trans Nft116.out.symm; have hF_ft116 := hF_; clear hF_; have hnb11 := NB114_115.out; have hnc11 := NB115_114.out; have hcz12_0 : w7.cell? ⟨gb114, 0, none⟩ = some (.float .f64 b_a1_0) := (blk_cell BK114.out 0).trans rfl; have hcz12_1 : w7.cell? ⟨gb114, 1, none⟩ = some (.float .f64 b_a1_1) := (blk_cell BK114.out 1).trans rfl; have hcz12_2 : w7.cell? ⟨gb114, 2, none⟩ = some (.float .f64 b_a1_2) := (blk_cell BK114.out 2).trans rfl; have hcz12_3 : w7.cell? ⟨gb114, 3, none⟩ = some (.float .f64 b_a1_3) := (blk_cell BK114.out 3).trans rfl; have hcz12_4 : w7.cell? ⟨gb114, 4, none⟩ = some (.float .f64 b_a1_4) := (blk_cell BK114.out 4).trans rfl; have hfz12_0 := blk_frozen BK114.out 0; have hfz12_1 := blk_frozen BK114.out 1; have hfz12_2 := blk_frozen BK114.out 2; have hfz12_3 := blk_frozen BK114.out 3; have hfz12_4 := blk_frozen BK114.out 4) | ((with_reducible refine gate_dst (N := 27) rfl ?_); refine fop_event rfl (N := 27) rfl (op := .mul) (by simp) rfl .f64 b_a1_1 b_ft116 a1_1 ft116 rfl rfl hF_a1_1 hF_ft116 ?_; intro b_ft117 nf_ hF_; replace hF_ := hF_.trans Nft117.out.symm; have hF_ft117 := hF_; clear hF_) | ((with_reducible refine gate_dst (N := 32) rfl ?_); refine fop_event rfl (N := 32) rfl (op := .mul) (by simp) rfl .f64 b_a1_4 b_a0_2 a1_4 a0_2 rfl rfl hF_a1_4 hF_a0_2 ?_; intro b_ft118 nf_ hF_; replace hF_ := hF_.trans Nft118.out.symm; have hF_ft118 := hF_; clear hF_) | ((with_reducible refine gate_dst (N := 36) rfl ?_); refine fop_event rfl (N := 36) rfl (op := .sub) (by simp) rfl .f64 b_a1_0 b_ft117 a1_0 ft117 rfl rfl hF_a1_0 hF_ft117 ?_; intro b_ft119 nf_ hF_; replace hF_ := hF_.trans Nft119.out.symm; have hF_ft119 := hF_; clear hF_) | ((with_reducible refine gate_dst (N := 39) rfl ?_); refine fop_event rfl (N := 39) rfl (op := .sub) (by simp) rfl .f64 b_ft119 b_ft118 ft119 ft118 rfl rfl hF_ft119 hF_ft118 ?_; intro b_ft120 nf_ hF_; replace hF_ := hF_.trans Nft120.out.symm; have hF_ft120 := hF_; clear hF_) | ((with_reducible refine gate_dst (N := 41) rfl ?_); refine fop_event rfl (N := 41) rfl (op := .mul) (by simp) rfl .f64 b_ft120 b_a3 ft120 a3 rfl rfl hF_ft120 hF_a3 ?_; intro b_ft121 nf_ hF_; replace hF_ := hF_.trans Nft121.out.symm; have hF_ft121 := hF_; clear hF_) | ((with_reducible refine gate_dst (N := 46) rfl ?_); refine fop_event rfl (N := 46) rfl (op := .mul) (by simp) rfl .f64 b_a0_0 b_a0_2 a0_0 a0_2 rfl rfl hF_a0_0 hF_a0_2 ?_; intro b_ft122 nf_ hF_; replace hF_ := hF_.trans Nft122.out.symm; have hF_ft122 := hF_; clear hF_) | ((with_reducible refine gate_dst (N := 49) rfl ?_); refine fop_event rfl (N := 49) rfl (op := .mul) (by simp) rfl .f64 b_ft122 b_a3 ft122 a3 rfl rfl hF_ft122 hF_a3 ?_; intro b_ft123 nf_ hF_; replace hF_ := hF_.trans Nft123.out.symm; have hF_ft123 := hF_; clear hF_) | ((with_reducible refine gate_dst (N := 53) rfl ?_); refine fop_event rfl (N := 53) rfl (op := .mul) (by simp) rfl .f64 b_a0_3 b_a3 a0_3 a3 rfl rfl hF_a0_3 hF_a3 ?_; intro b_ft124 nf_ hF_; replace hF_ := hF_.trans Nft124.out.symm; have hF_ft124 := hF_; clear hF_) | ((with_reducible refine gate_dst (N := 58) rfl ?_); refine fop_event rfl (N := 58) rfl (op := .mul) (by simp) rfl .f64 b_a1_3 b_a0_3 a1_3 a0_3 rfl rfl hF_a1_3 hF_a0_3 ?_; intro b_ft125 nf_ hF_; replace hF_ := hF_.trans Nft125.out.symm; have hF_ft125 := hF_; clear hF_) | ((with_reducible refine gate_dst (N := 61) rfl ?_); refine fop_event rfl (N := 61) rfl (op := .sub) (by simp) rfl .f64 b_a2 b_ft125 a2 ft125 rfl rfl hF_a2 hF_ft125 ?_; intro b_ft126 nf_ hF_; replace hF_ := hF_.trans Nft126.out.symm; have hF_ft126 := hF_; clear hF_) | ((with_reducible refine gate_dst (N := 63) rfl ?_); refine fop_event rfl (N := 63) rfl (op := .mul) (by simp) rfl .f64 b_ft126 b_a3 ft126 a3 rfl rfl hF_ft126 hF_a3 ?_; intro b_ft127 nf_ hF_; replace hF_ := hF_.trans Nft127.out.symm; have hF_ft127 := hF_; clear hF_) | ((with_reducible refine gate_dst (N := 67) rfl ?_); refine fop_event rfl (N := 67) rfl (op := .add) (by simp) rfl .f64 b_a0_0 b_ft121 a0_0 ft121 rfl rfl hF_a0_0 hF_ft121 ?_; intro b_ft128 nf_ hF_; replace hF_ := hF_.trans Nft128.out.symm; have hF_ft128 := hF_; clear hF_) | ((with_reducible refine gate_dst (N := 71) rfl ?_); refine fop_event rfl (N := 71) rfl (op := .add) (by simp) rfl .f64 b_a0_1 b_ft123 a0_1 ft123 rfl rfl hF_a0_1 hF_ft123 ?_; intro b_ft129 nf_ hF_; replace hF_ := hF_.trans Nft129.out.symm; have hF_ft129 := hF_; clear hF_) | ((with_reducible refine gate_dst (N := 75) rfl ?_); refine fop_event rfl (N := 75) rfl (op := .add) (by simp) rfl .f64 b_a0_2 b_ft124 a0_2 ft124 rfl rfl hF_a0_2 hF_ft124 ?_; intro b_ft130 nf_ hF_; replace hF_ := hF_.trans Nft130.out.symm; have hF_ft130 := hF_; clear hF_) | ((with_reducible refine gate_dst (N := 79) rfl ?_); refine fop_event rfl (N := 79) rfl (op := .add) (by simp) rfl .f64 b_a0_3 b_ft127 a0_3 ft127 rfl rfl hF_a0_3 hF_ft127 ?_; intro b_ft131 nf_ hF_; replace hF_ := hF_.trans Nft131.out.symm; have hF_ft131 := hF_; clear hF_; have hcz13_0 : w7.cell? ⟨gb115, 0, none⟩ = some (.float .f64 0) := (blk_cell BK115.out 0).trans rfl; have hcz13_1 : w7.cell? ⟨gb115, 1, none⟩ = some (.float .f64 0) := (blk_cell BK115.out 1).trans rfl; have hcz13_2 : w7.cell? ⟨gb115, 2, none⟩ = some (.float .f64 0) := (blk_cell BK115.out 2).trans rfl; have hcz13_3 : w7.cell? ⟨gb115, 3, none⟩ = some (.float .f64 0) := (blk_cell BK115.out 3).trans rfl; have hfz13_0 := blk_frozen BK115.out 0; have hfz13_1 := blk_frozen BK115.out 1; have hfz13_2 := blk_frozen BK115.out 2; have hfz13_3 := blk_frozen BK115.out 3))
  refine bodyPost_ret (results_cell_row rfl _ _ gb115 66 #[.float .f64 b_ft128, .float .f64 b_ft129, .float .f64 b_ft130, .float .f64 b_ft131] (0, 0) _ rfl (by (with_reducible repeat (first | refine blk_drewN ?_ _ | refine blk_drew ?_ | refine blk_alloc ?_ _)); refine blk_put (cs := #[.float .f64 b_ft128, .float .f64 b_ft129, .float .f64 b_ft130, .float .f64 0]) ?_ 3 _ rfl; (with_reducible repeat (first | refine blk_drewN ?_ _ | refine blk_drew ?_ | refine blk_alloc ?_ _)); refine blk_put (cs := #[.float .f64 b_ft128, .float .f64 b_ft129, .float .f64 0, .float .f64 0]) ?_ 2 _ rfl; (with_reducible repeat (first | refine blk_drewN ?_ _ | refine blk_drew ?_ | refine blk_alloc ?_ _)); refine blk_put (cs := #[.float .f64 b_ft128, .float .f64 0, .float .f64 0, .float .f64 0]) ?_ 1 _ rfl; (with_reducible repeat (first | refine blk_drewN ?_ _ | refine blk_drew ?_ | refine blk_alloc ?_ _)); refine blk_put (cs := #[.float .f64 0, .float .f64 0, .float .f64 0, .float .f64 0]) ?_ 0 _ rfl; (with_reducible repeat (first | refine blk_drewN ?_ _ | refine blk_drew ?_ | refine blk_alloc ?_ _)); exact BK115.out) Try.underlying66 rfl (by kernel_rfl)) rfl ?_
  exact ⟨b_ft128, b_ft129, b_ft130, b_ft131, by first | rfl | (simp [errW_none, errW_some] <;> rfl) | (simp [*, errW_none, errW_some] <;> rfl), hF_ft128, hF_ft129, hF_ft130, hF_ft131, by repeat (first | (with_reducible first | exact HB.out | apply below_alloc | apply pw_below_drewN | apply below_drew1 | refine below_set ?_ GE113.out | refine below_set ?_ GE114.out | refine below_set ?_ GE115.out) | exact HB.out)⟩

end Go.Proofs.Ytfopdbdamkfglaa.QFnExactFly
