/- Lean functions that tell what the Go functions used by one law answer, and for each a proof that the Go code comes to just these answers; no condition. Printed by this session's own program over the kit's printer. -/
import Derived.Test.YtnphbpkpjinddaaWSq
import Derived.Test.YtnphbpkpjinddaaQFnExactAtGridx0
namespace Go.Proofs.Ytnphbpkpjinddaa.QFnExactAtGrid
open Go.RowKit Go.Proofs.YtnphbpkpjinddaaW.PrintWords Go.Proofs.YtnphbpkpjinddaaW.PrintLast Go.Proofs.YtnphbpkpjinddaaW.PrintMore
attribute [local go_sem] max2_int min2_int max_two min_two max_three min_three max_four min_four   -- for this text's walks alone
attribute [local go_sem high] go_eql go_neq go_lss go_leq go_gtr go_geq go_store   -- for this text's walks alone
set_option linter.unusedVariables false
set_option linter.unusedSimpArgs false

/-! ### laws_toIntS: function 65 -/
def laws_toIntS.l0 : Nat → List Int → List Int → Int → Option (List Int)
 | 0, _, _, _ => none
 | k + 1, x0, x3, x4 => if x4 < (x0.length : Int) then (if 0 ≤ x4 then (if x4 < (x3.length : Int) then (laws_toIntS.l0 k x0 (x3.set (x4 : Int).toNat (rd x0 x4)) (wrap64 (x4 + 1))) else (none)) else (none)) else (some x3)
def laws_toIntS.f (k : Nat) (l0 : List Int) : Option (List Int) := if 0 ≤ (l0.length : Int) then (if ((l0.length : Int) : Int).toNat ≤ 35184372088832 then (laws_toIntS.l0 k l0 (List.replicate ((l0.length : Int) : Int).toNat 0) 0) else (none)) else (none)
theorem laws_toIntS.mono_l : ∀ k, (∀ y0 y1 y2, LeO (laws_toIntS.l0 k y0 y1 y2) (laws_toIntS.l0 (k + 1) y0 y1 y2))
 | 0 => fun _ _ _ r h => by simp [laws_toIntS.l0] at h
 | k + 1 => by
  have d3 := laws_toIntS.mono_l k
  ·intro y0 y1 y2
   unfold laws_toIntS.l0
   repeat' first
   | (with_reducible exact d3 _ _ _)
   | (with_reducible exact LeO.refl _)
   | (with_reducible exact LeO.none _)
   | (with_reducible refine LeO.ite ?_ ?_)
   | (with_reducible refine LeO.bind ?_ (fun _ => ?_))
   | exact d3 _ _ _
   | exact LeO.none _
   | refine LeO.ite ?_ ?_
   | refine LeO.bind ?_ (fun _ => ?_)
theorem laws_toIntS.mono : ∀ a0 k, LeO (laws_toIntS.f k a0) (laws_toIntS.f (k + 1) a0) := by
 intro a0 k
 have d3 := laws_toIntS.mono_l k
 unfold laws_toIntS.f
 repeat' first
   | (with_reducible exact d3 _ _ _)
   | (with_reducible exact LeO.refl _)
   | (with_reducible exact LeO.none _)
   | (with_reducible refine LeO.ite ?_ ?_)
   | (with_reducible refine LeO.bind ?_ (fun _ => ?_))
   | exact d3 _ _ _
   | exact LeO.none _
   | refine LeO.ite ?_ ?_
   | refine LeO.bind ?_ (fun _ => ?_)
set_option maxHeartbeats 8000000 in
set_option maxRecDepth 100000 in
theorem laws_toIntS.calls (k : Nat) (A0 : Option Addr) (c0 : Nat) (l0 : List Int) (r : List Int) (w : World) (hr0 : Kd.C (Kd.int .i64) w A0 l0.length l0) (hc0 : l0.length ≤ c0) (h : laws_toIntS.f k l0 = some r) :
  Calls Try.prog 65 #[.slice A0 l0.length c0] w fun e w' => ∃ v0_ : Value, e = .returned (v0_) ∧ Kd.R (Kd.int .i64) 3 w' w.heap.size (fun _ => True) v0_ r ∧ Below w.heap.size w w' := by
 have l3 := mk_ hr0; have F5 := mk_ hc0; clear hr0 hc0; have HB := mk_ (Below.refl w.heap.size w)
 have H : (if 0 ≤ (l0.length : Int) then (if ((l0.length : Int) : Int).toNat ≤ 35184372088832 then (laws_toIntS.l0 k l0 (List.replicate ((l0.length : Int) : Int).toNat 0) 0) else (none)) else (none)) = some r := h
 clear h; by_cases c2 : 0 ≤ (l0.length : Int)
 ·rw [if_pos c2] at H
  have o5 := eq_true c2
  have o6 : decide (0 ≤ (l0.length : Int)) = true := decide_eq_true c2; clear c2; by_cases c3 : ((l0.length : Int) : Int).toNat ≤ 35184372088832
  ·rw [if_pos c3] at H
   have l9 := eq_true c3
   have o7 : decide (((l0.length : Int) : Int).toNat ≤ 35184372088832) = true := decide_eq_true c3; clear c3
   obtain ⟨q7, h3⟩ : ∃ y_ : List Int, y_ = (List.replicate ((l0.length : Int) : Int).toNat 0) := ⟨_, rfl⟩
   replace H : (laws_toIntS.l0 k l0 q7 0) = some r := by first | (rw [h3]; with_reducible exact H) | (have H2_ := (Option.bind_some _ _).symm.trans H; rw [h3]; with_reducible exact H2_) | (have H2_ := (Option.bind_some _ _).symm.trans H; with_reducible exact H2_) | with_reducible exact H | (rw [h3]; exact H) | exact H
   have n6 := mk_ h3; clear h3
   have H' := mk_ H
   clear H
   go_enter Try.func65, Try.ntmps65
   go_wp2_with (first | ((with_reducible refine gd_ 7 rfl ?_); refine Kd.R_make (Kd.int .i64) _ 3 rfl (N := 7) rfl 22 _ _ rfl (l0.length : Int) rfl rfl Try.underlying22 (.int .i64 0) 8 info3 rfl (by decide) (by omega) 0 (ok := fun _ => True) (okp := fun _ => True) rfl (fun _ hk => hk) trivial (od_) (Nat.le_trans (Nat.mul_le_mul_right _ (od_ : (l0.length : Int).toNat ≤ 35184372088832)) (by omega)) (Below.refl _ _) (Nat.le_refl _) ?_; intro v159 w4 m0 hb hg_ hnew_; clear hg_ hnew_; (first | rw [← n6.out] at m0 | (simp only [Int.reduceToNat] at m0; rw [← n6.out] at m0)); have q8 := mk_ (Kd.R_lower m0 (below_size (by exact HB.out))); replace HB := bp_ HB hb; clear hb m0))
   go_loopg [4] k (fun kq v4 w' => ∃ (b1 : List Int) (a6 : Int), v4 = .int .i64 a6 ∧ Aside0 (laws_toIntS.l0 kq l0 b1 a6 = some r) ∧ Aside0 (kq ≤ k) ∧ Aside0 (Kd.R (Kd.int .i64) 3 w' w.heap.size (fun _ => True) v159 b1) ∧ Aside0 (Below w.heap.size w w'))
   case atStart => exact ⟨(q7), (0), rf_, H', ⟨Nat.le_refl _⟩, kw_ q8, ⟨hw_ HB⟩⟩
   case round =>
    clear H'; (try clear c2); (try clear o5); (try clear o6); (try clear c3)
    obtain ⟨b1, a6, rfl, HA, j0, b0, HB⟩ := hrel
    cases gk with
    | zero => exact absurd HA.out (by simp [laws_toIntS.l0])
    | succ k1 =>
     have H := HA.out; clear HA
     simp only [laws_toIntS.l0] at H
     by_cases c6 : a6 < (l0.length : Int)
     ·rw [if_pos c6] at H; have m2 : decide (a6 < (l0.length : Int)) = true := decide_eq_true c6; clear c6; by_cases c7 : 0 ≤ a6
      ·rw [if_pos c7] at H; have o8 : decide (0 ≤ a6) = true := decide_eq_true c7; clear c7; by_cases c8 : a6 < (b1.length : Int)
       ·rw [if_pos c8] at H; have I7 : decide (a6 < (b1.length : Int)) = true := decide_eq_true c8; clear c8
        obtain ⟨o9, h4⟩ : ∃ y_ : List Int, y_ = (b1.set (a6 : Int).toNat (rd l0 a6)) := ⟨_, rfl⟩
        replace H : (laws_toIntS.l0 k1 l0 o9 (wrap64 (a6 + 1))) = some r := by first | (rw [h4]; with_reducible exact H) | (have H2_ := (Option.bind_some _ _).symm.trans H; rw [h4]; with_reducible exact H2_) | (have H2_ := (Option.bind_some _ _).symm.trans H; with_reducible exact H2_) | with_reducible exact H | (rw [h4]; exact H) | exact H
        have s0 := mk_ h4; clear h4
        have H' := mk_ H
        clear H
        have p0 : 0 ≤ (a6 : Int) := od_
        have p1 : a6 < (l0.length : Int) := od_
        obtain ⟨H1, F6, g5⟩ := Kd.at_int l3.out a6 p0 p1; cases F6
        replace g5 := (HB.out.cell (World.block_lt_of_cell? w _ g5)).trans g5
        replace p0 := eq_true p0; replace p1 := eq_true p1
        have p9 : 0 ≤ (a6 : Int) := od_
        have q9 : (a6 : Int) < ((b1.length : Int) : Int) := od_
        obtain ⟨F7, I8, H2, H3, gl9, cl9, HG9⟩ := Kd.R_form b0.out (by omega)
        (first | cases H2 | (injection H2 with ea_ en_ ec_; (first | subst ea_ | (injection ea_ with ea_; subst ea_)); subst ec_; clear en_))
        have GB9 := mk_ H3; have L2 := mk_ HG9; clear H3 gl9 HG9
        obtain ⟨H4, H5⟩ := Kd.R_celln 0 b0.out (a6 : Int) p9 q9
        replace p9 := eq_true p9; replace q9 := eq_true q9
        have HP10 := Kd.R_putg b0.out (a6 : Int) (rd l0 a6)
        go_wp2_with (first | ((with_reducible refine gate_store (t := 3) (p := 20) rfl ?_); refine store_event (t := 3) (p := 20) (v := ?vo_w11) (w1 := (wr.setCell ⟨F7, (a6 : Int).toNat, none⟩ (.int .i64 (rd l0 a6)))) ?hg ?ho ?hn ?hr ?_; (case ho => rfl); (case hg => rfl); (case hn => rfl); (case hr => exact hr_); intro n7 hw; have hg : wr.grownBy n7 (some F7) := (by rw [hw]; exact HP10.2); have hp_ : Kd.R (Kd.int .i64) 3 n7 w.heap.size (fun _ => True) (.slice (some ⟨F7, 0, none⟩) b1.length I8) o9 := (by rw [hw, s0.out]; exact HP10.1); clear HP10; replace b0 := mk_ (hp_); replace HB := mk_ ((by rw [hw]; exact below_set (HB.out) GB9.out : Below w.heap.size w n7)); clear hg hw hp_))
        go_roundg k1
        case measure => have := j0.out; omega
        case rel => exact ⟨(o9), (wrap64 (a6 + 1)), rf_, H', ⟨by have := j0.out; omega⟩, kw_ b0, ⟨hw_ HB⟩⟩
       ·rw [if_neg c8] at H
        exact absurd H (by simp)
      ·rw [if_neg c7] at H
       exact absurd H (by simp)
     ·rw [if_neg c6] at H; have m2 : decide (a6 < (l0.length : Int)) = false := decide_eq_false c6; clear c6; obtain rfl := Option.some.inj H; go_wp2; go_ret
      exact ⟨_, re_, by (with_reducible repeat (first | apply Kd.R_alloc | apply Kd.R_drewN | apply Kd.R_drew)); exact b0.out, hw_ HB⟩
  ·rw [if_neg c3] at H
   exact absurd H (by simp)
 ·rw [if_neg c2] at H
  exact absurd H (by simp)

/-! ### laws_toIntSS: function 97 -/
def laws_toIntSS.l0 : Nat → List (List Int) → List (List Int) → Int → Option ((List (List Int)))
 | 0, _, _, _ => none
 | k + 1, x0, x3, x4 => if x4 < (x0.length : Int) then (if 0 ≤ x4 then ((laws_toIntS.f k (rd_L1 x0 x4)).bind fun g6 => (if x4 < (x3.length : Int) then (laws_toIntSS.l0 k x0 (x3.set (x4 : Int).toNat g6) (wrap64 (x4 + 1))) else (none))) else (none)) else (some x3)
def laws_toIntSS.f (k : Nat) (l0 : List (List Int)) : Option ((List (List Int))) := if 0 ≤ (l0.length : Int) then (if ((l0.length : Int) : Int).toNat ≤ 11728124029610 then (laws_toIntSS.l0 k l0 (List.replicate ((l0.length : Int) : Int).toNat []) 0) else (none)) else (none)
theorem laws_toIntSS.mono_l : ∀ k, (∀ y0 y1 y2, LeO (laws_toIntSS.l0 k y0 y1 y2) (laws_toIntSS.l0 (k + 1) y0 y1 y2))
 | 0 => fun _ _ _ r h => by simp [laws_toIntSS.l0] at h
 | k + 1 => by
  have d3 := laws_toIntSS.mono_l k
  ·intro y0 y1 y2
   unfold laws_toIntSS.l0
   repeat' first
   | (with_reducible exact d3 _ _ _)
   | (with_reducible exact laws_toIntS.mono _ _)
   | (with_reducible exact LeO.refl _)
   | (with_reducible exact LeO.none _)
   | (with_reducible refine LeO.ite ?_ ?_)
   | (with_reducible refine LeO.bind ?_ (fun _ => ?_))
   | exact d3 _ _ _
   | exact laws_toIntS.mono _ _
   | exact LeO.none _
   | refine LeO.ite ?_ ?_
   | refine LeO.bind ?_ (fun _ => ?_)
theorem laws_toIntSS.mono : ∀ a0 k, LeO (laws_toIntSS.f k a0) (laws_toIntSS.f (k + 1) a0) := by
 intro a0 k
 have d3 := laws_toIntSS.mono_l k
 unfold laws_toIntSS.f
 repeat' first
   | (with_reducible exact d3 _ _ _)
   | (with_reducible exact laws_toIntS.mono _ _)
   | (with_reducible exact LeO.refl _)
   | (with_reducible exact LeO.none _)
   | (with_reducible refine LeO.ite ?_ ?_)
   | (with_reducible refine LeO.bind ?_ (fun _ => ?_))
   | exact d3 _ _ _
   | exact laws_toIntS.mono _ _
   | exact LeO.none _
   | refine LeO.ite ?_ ?_
   | refine LeO.bind ?_ (fun _ => ?_)
set_option maxHeartbeats 8000000 in
set_option maxRecDepth 100000 in
theorem laws_toIntSS.calls (k : Nat) (A0 : Option Addr) (c0 : Nat) (l0 : List (List Int)) (r : List (List Int)) (w : World) (hr0 : Kd.C (Kd.slice 3 (Kd.int .i64)) w A0 l0.length l0) (hc0 : l0.length ≤ c0) (h : laws_toIntSS.f k l0 = some r) :
  Calls Try.prog 97 #[.slice A0 l0.length c0] w fun e w' => ∃ v0_ : Value, e = .returned (v0_) ∧ Kd.S (Kd.slice 3 (Kd.int .i64)) 22 w' w.heap.size (fun _ => True) v0_ r ∧ Below w.heap.size w w' := by
 have l3 := mk_ hr0; have F5 := mk_ hc0; clear hr0 hc0; have HB := mk_ (Below.refl w.heap.size w)
 have H : (if 0 ≤ (l0.length : Int) then (if ((l0.length : Int) : Int).toNat ≤ 11728124029610 then (laws_toIntSS.l0 k l0 (List.replicate ((l0.length : Int) : Int).toNat []) 0) else (none)) else (none)) = some r := h
 clear h; by_cases c2 : 0 ≤ (l0.length : Int)
 ·rw [if_pos c2] at H
  have o5 := eq_true c2
  have o6 : decide (0 ≤ (l0.length : Int)) = true := decide_eq_true c2; clear c2; by_cases c3 : ((l0.length : Int) : Int).toNat ≤ 11728124029610
  ·rw [if_pos c3] at H
   have l9 := eq_true c3
   have o7 : decide (((l0.length : Int) : Int).toNat ≤ 11728124029610) = true := decide_eq_true c3; clear c3
   obtain ⟨s1, h5⟩ : ∃ y_ : List (List Int), y_ = (List.replicate ((l0.length : Int) : Int).toNat []) := ⟨_, rfl⟩
   replace H : (laws_toIntSS.l0 k l0 s1 0) = some r := by first | (rw [h5]; with_reducible exact H) | (have H2_ := (Option.bind_some _ _).symm.trans H; rw [h5]; with_reducible exact H2_) | (have H2_ := (Option.bind_some _ _).symm.trans H; with_reducible exact H2_) | with_reducible exact H | (rw [h5]; exact H) | exact H
   have n8 := mk_ h5; clear h5
   have H' := mk_ H
   clear H
   go_enter Try.func97, Try.ntmps97
   go_wp2_with (first | ((with_reducible refine gd_ 7 rfl ?_); refine Kd.S_make (Kd.slice 3 (Kd.int .i64)) _ 22 rfl (N := 7) rfl 70 _ _ rfl (l0.length : Int) rfl rfl Try.underlying70 (.slice none 0 0) 24 info22 rfl (by decide) (by omega) [] (ok := fun _ => True) (okp := fun _ => True) ⟨_, rfl, Kd.R_nil _ _ _ _ _⟩ (fun _ hk => hk) trivial (od_) (Nat.le_trans (Nat.mul_le_mul_right _ (od_ : (l0.length : Int).toNat ≤ 11728124029610)) (by omega)) (Below.refl _ _) (Nat.le_refl _) ?_; intro v164 w4 m0 hb hg_ hnew_; clear hg_ hnew_; (first | rw [← n8.out] at m0 | (simp only [Int.reduceToNat] at m0; rw [← n8.out] at m0)); have s2 := mk_ (Kd.S_lower m0 (below_size (by exact HB.out))); replace HB := bp_ HB hb; clear hb m0))
   go_loopg [4] k (fun kq v4 w' => ∃ (b1 : List (List Int)) (a6 : Int), v4 = .int .i64 a6 ∧ Aside0 (laws_toIntSS.l0 kq l0 b1 a6 = some r) ∧ Aside0 (kq ≤ k) ∧ Aside0 (Kd.S (Kd.slice 3 (Kd.int .i64)) 22 w' w.heap.size (fun _ => True) v164 b1) ∧ Aside0 (Below w.heap.size w w'))
   case atStart => exact ⟨(s1), (0), rf_, H', ⟨Nat.le_refl _⟩, ⟨by (with_reducible repeat (first | apply Kd.S_alloc | apply Kd.S_drewN | apply Kd.S_drew)); exact s2.out⟩, ⟨hw_ HB⟩⟩
   case round =>
    clear H'; (try clear c2); (try clear o5); (try clear o6); (try clear c3)
    obtain ⟨b1, a6, rfl, HA, j0, b0, HB⟩ := hrel
    cases gk with
    | zero => exact absurd HA.out (by simp [laws_toIntSS.l0])
    | succ k1 =>
     have H := HA.out; clear HA
     simp only [laws_toIntSS.l0] at H
     by_cases c6 : a6 < (l0.length : Int)
     ·rw [if_pos c6] at H; have m2 : decide (a6 < (l0.length : Int)) = true := decide_eq_true c6; clear c6; by_cases c7 : 0 ≤ a6
      ·rw [if_pos c7] at H; have o8 : decide (0 ≤ a6) = true := decide_eq_true c7; clear c7; replace H := Option.bind_eq_some_iff.mp H; obtain ⟨g6, H6, H⟩ := H; (try dsimp only at H); have A8 := mk_ H6; clear H6; by_cases c9 : a6 < (b1.length : Int)
       ·rw [if_pos c9] at H; have s3 : decide (a6 < (b1.length : Int)) = true := decide_eq_true c9; clear c9
        obtain ⟨p2, h6⟩ : ∃ y_ : List (List Int), y_ = (b1.set (a6 : Int).toNat g6) := ⟨_, rfl⟩
        replace H : (laws_toIntSS.l0 k1 l0 p2 (wrap64 (a6 + 1))) = some r := by first | (rw [h6]; with_reducible exact H) | (have H2_ := (Option.bind_some _ _).symm.trans H; rw [h6]; with_reducible exact H2_) | (have H2_ := (Option.bind_some _ _).symm.trans H; with_reducible exact H2_) | with_reducible exact H | (rw [h6]; exact H) | exact H
        have s4 := mk_ h6; clear h6
        have H' := mk_ H
        clear H
        have p3 : 0 ≤ (a6 : Int) := od_
        have p4 : a6 < (l0.length : Int) := od_
        obtain ⟨H7, p5, p6, F8, g7, j9, l1⟩ := at_L1 l3.out a6 p3 p4; cases F8
        replace g7 := (HB.out.cell (World.block_lt_of_cell? w _ g7)).trans g7
        have m8 := mk_ l1; have m9 := mk_ j9; clear l1 j9; replace p3 := eq_true p3; replace p4 := eq_true p4
        go_wp2_with (first | ((with_reducible refine gc_ 65 rfl ?_); refine gl_ (some 20) rfl Try.func65 #[.slice p5 (rd_L1 l0 a6).length p6] ?_; (with_reducible refine (laws_toIntS.calls k1 _ _ (rd_L1 l0 a6) g6 _ ?d5 ?d6 A8.out).mono ?_); (case d5 => exact cw_ (Kd.C_below m8.out HB.out)); (case d6 => exact m9.out); rintro e n7 ⟨v168, rfl, l4, hb⟩; refine ⟨_, rfl, ?_⟩; replace b0 := mk_ (Kd.S_elder' (by exact b0.out) (Kd.R_base l4) hb); have l2 := mk_ (Kd.R_lower l4 (below_size (by exact HB.out))); replace HB := bp_ HB hb; (try clear hb); (try clear p7); (try clear hk); (try clear hi); (try clear l4); have F9 : 0 ≤ (a6 : Int) := od_; have G0 : (a6 : Int) < ((b1.length : Int) : Int) := od_; obtain ⟨l5, s5, s6, s7, gl10, cl10, HG10⟩ := Kd.S_form b0.out (by omega); (first | cases s6 | (injection s6 with ea_ en_ ec_; (first | subst ea_ | (injection ea_ with ea_; subst ea_)); subst ec_; clear en_)); have GB10 := mk_ s7; have I9 := mk_ HG10; clear s7 gl10 HG10; obtain ⟨_, J0, s8, s9, n9, o0, _, _⟩ := Kd.S_elem b0.out [] (a6 : Int) F9 G0; obtain ⟨ve10_0, rfl, G1⟩ := s9; have p8 := n9 0 _ rfl; have q0 := o0 0; (try simp only [show ((Kd.slice 3 (Kd.int .i64))).sz = 1 from rfl, Nat.mul_one, Nat.add_zero] at p8); (try simp only [show ((Kd.slice 3 (Kd.int .i64))).sz = 1 from rfl, Nat.mul_one, Nat.add_zero] at q0); clear s8 n9 o0; (try clear s9); replace F9 := eq_true F9; replace G0 := eq_true G0; obtain ⟨n0, n1, G2⟩ := Kd.R_slice l2.out; subst G2; have n_ := mk_ (Kd.S_mono (ok' := (fun k_ => some k_ ≠ (.slice n0 g6.length n1 : Value).ownBlock)) b0.out (fun k_ hk => hk.2)); clear b0; have b0 := n_; clear n_; have G3 := mk_ (show Kd.S (Kd.slice 3 (Kd.int .i64)) 22 n7 w.heap.size (fun k_ => ((fun _ => True)) k_ ∧ ¬ ((fun k_ => some k_ = (.slice n0 g6.length n1 : Value).ownBlock)) k_) (.slice (some ⟨l5, 0, none⟩) b1.length s5) b1 from (by (with_reducible repeat (first | apply Kd.S_alloc | apply Kd.S_drewN | apply Kd.S_drew)); exact Kd.S_mono b0.out (fun k_ hk => ⟨trivial, fun e_ => hk e_⟩))); obtain ⟨oki12, J1, t0, t1, o1, o2, hoki12, hH12⟩ := Kd.S_elem G3.out [] (a6 : Int) (od_) (by have h_ : (a6 : Int) < ((b1.length : Int) : Int) := od_; first | exact h_ | (have e_ := (Kd.S_reads' b0.out).1; omega) | simpa using h_); obtain ⟨ve12_0, rfl, G4⟩ := t1; have HP12 := Kd.S_seg hH12 (od_) (by have h_ : (a6 : Int) < ((b1.length : Int) : Int) := od_; first | exact h_ | (have e_ := (Kd.S_reads' b0.out).1; omega) | simpa using h_) (seg := [.slice n0 g6.length n1]) (j := 0) (show 1 ≤ 1 from by decide) (x' := g6) (Kd.M_row (Kd.R_mono (Kd.R_tight rfl (Kd.R_mono (ok' := fun k_ => ((fun _ => True)) k_ ∧ k_ ≠ l5) (Kd.R_apart' (l2.out) (Kd.S_typed b0.out) (by decide)) (fun k_ hk => ⟨trivial, fun e_ => (hk.2) (by rw [e_]; rfl)⟩))) (fun _ h_ => Or.inr (h_)))) (fun _ hk => hk) (fun k_ hk_ => ((Kd.R_mono (ok' := fun k_ => ((fun _ => True)) k_ ∧ k_ ≠ l5) (Kd.R_apart' (l2.out) (Kd.S_typed b0.out) (by decide)) (fun k_ hk => ⟨trivial, fun e_ => (hk.2) (by rw [e_]; rfl)⟩))).1 k_ hk_.symm); have q1 := o1 0 _ rfl; (try simp only [show ((Kd.slice 3 (Kd.int .i64))).sz = 1 from rfl, Nat.mul_one, Nat.add_zero] at q1); have q2 := o2 0; (try simp only [show ((Kd.slice 3 (Kd.int .i64))).sz = 1 from rfl, Nat.mul_one, Nat.add_zero] at q2); clear t0 o1 o2; (try clear t1); clear hoki12 hH12; (try simp only [show ((Kd.slice 3 (Kd.int .i64))).sz = 1 from rfl, Nat.mul_one, Nat.add_zero] at HP12)) | ((with_reducible refine gate_store (t := 22) (p := 21) rfl ?_); refine store_event (t := 22) (p := 21) (v := ?vo_w13) (w1 := (n7.setCell ⟨l5, (a6 : Int).toNat, none⟩ (.slice n0 g6.length n1))) ?hg ?ho ?hn ?hr ?_; (case ho => rfl); (case hg => rfl); (case hn => rfl); (case hr => exact hr_); intro G5 hw; have hg : n7.grownBy G5 (some l5) := (by rw [hw]; exact HP12.2); have hp_ : Kd.S (Kd.slice 3 (Kd.int .i64)) 22 G5 w.heap.size (fun _ => True) (.slice (some ⟨l5, 0, none⟩) b1.length s5) p2 := (by rw [hw, s4.out]; exact HP12.1); clear HP12; replace b0 := mk_ (hp_); replace HB := mk_ ((by rw [hw]; exact below_set (HB.out) GB10.out : Below w.heap.size w G5)); clear l2; clear hg hw hp_))
        go_roundg k1
        case measure => have := j0.out; omega
        case rel => exact ⟨(p2), (wrap64 (a6 + 1)), rf_, H', ⟨by have := j0.out; omega⟩, ⟨by (with_reducible repeat (first | apply Kd.S_alloc | apply Kd.S_drewN | apply Kd.S_drew)); exact b0.out⟩, ⟨hw_ HB⟩⟩
       ·rw [if_neg c9] at H
        exact absurd H (by simp)
      ·rw [if_neg c7] at H
       exact absurd H (by simp)
     ·rw [if_neg c6] at H; have m2 : decide (a6 < (l0.length : Int)) = false := decide_eq_false c6; clear c6; obtain rfl := Option.some.inj H; go_wp2; go_ret
      exact ⟨_, re_, by (with_reducible repeat (first | apply Kd.S_alloc | apply Kd.S_drewN | apply Kd.S_drew)); exact b0.out, hw_ HB⟩
  ·rw [if_neg c3] at H
   exact absurd H (by simp)
 ·rw [if_neg c2] at H
  exact absurd H (by simp)

/-! ### laws_toGrid: function 44 -/
def laws_toGrid.f (k : Nat) (l0_0 : List Int) (l0_1 : List Int) (l0_2 : List (List Int)) : Option (List Int × List Int × (List (List Int))) := (laws_toIntS.f k l0_0).bind fun b3 => ((laws_toIntS.f k l0_1).bind fun b4 => ((laws_toIntSS.f k l0_2).bind fun b7 => (some (b3, b4, b7))))
theorem laws_toGrid.mono : ∀ a0 a1 a2 k, LeO (laws_toGrid.f k a0 a1 a2) (laws_toGrid.f (k + 1) a0 a1 a2) := by
 intro a0 a1 a2 k
 unfold laws_toGrid.f
 repeat' first
   | (with_reducible exact laws_toIntS.mono _ _)
   | (with_reducible exact laws_toIntSS.mono _ _)
   | (with_reducible exact LeO.refl _)
   | (with_reducible exact LeO.none _)
   | (with_reducible refine LeO.ite ?_ ?_)
   | (with_reducible refine LeO.bind ?_ (fun _ => ?_))
   | exact laws_toIntS.mono _ _
   | exact laws_toIntSS.mono _ _
   | exact LeO.none _
   | refine LeO.ite ?_ ?_
   | refine LeO.bind ?_ (fun _ => ?_)
set_option maxHeartbeats 8000000 in
set_option maxRecDepth 100000 in
theorem laws_toGrid.calls (k : Nat) (A0_0 : Option Addr) (c0_0 : Nat) (l0_0 : List Int) (A0_1 : Option Addr) (c0_1 : Nat) (l0_1 : List Int) (A0_2 : Option Addr) (c0_2 : Nat) (l0_2 : List (List Int)) (r1 : List Int) (r2 : List Int) (r3 : List (List Int)) (w : World) (hr0_0 : Kd.C (Kd.int .i64) w A0_0 l0_0.length l0_0) (hc0_0 : l0_0.length ≤ c0_0) (hr0_1 : Kd.C (Kd.int .i64) w A0_1 l0_1.length l0_1) (hc0_1 : l0_1.length ≤ c0_1) (hr0_2 : Kd.C (Kd.slice 3 (Kd.int .i64)) w A0_2 l0_2.length l0_2) (hc0_2 : l0_2.length ≤ c0_2) (h : laws_toGrid.f k l0_0 l0_1 l0_2 = some (r1, r2, r3)) :
  Calls Try.prog 44 #[.agg #[.slice A0_0 l0_0.length c0_0, .slice A0_1 l0_1.length c0_1, .slice A0_2 l0_2.length c0_2]] w fun e w' => ∃ v0_ v1_ v2_ : Value, e = .returned (.agg #[v0_, v1_, v2_]) ∧ Kd.R (Kd.int .i64) 3 w' w.heap.size (fun k_ => some k_ ≠ (v1_ : Value).ownBlock) v0_ r1 ∧ Kd.R (Kd.int .i64) 3 w' w.heap.size (fun k_ => some k_ ≠ (v0_ : Value).ownBlock) v1_ r2 ∧ Kd.S (Kd.slice 3 (Kd.int .i64)) 22 w' w.heap.size (fun k_ => some k_ ≠ (v0_ : Value).ownBlock ∧ some k_ ≠ (v1_ : Value).ownBlock) v2_ r3 ∧ Below w.heap.size w w' := by
 have J2 := Try.underlying72
 have J3 := Try.underlying75
 have t2 := mk_ hr0_0; have t3 := mk_ hc0_0; clear hr0_0 hc0_0; have t4 := mk_ hr0_1; have t5 := mk_ hc0_1; clear hr0_1 hc0_1; have t6 := mk_ hr0_2; have t7 := mk_ hc0_2; clear hr0_2 hc0_2; have HB := mk_ (Below.refl w.heap.size w)
 have H : ((laws_toIntS.f k l0_0).bind fun b3 => ((laws_toIntS.f k l0_1).bind fun b4 => ((laws_toIntSS.f k l0_2).bind fun b7 => (some (b3, b4, b7))))) = some (r1, r2, r3) := h
 clear h; replace H := Option.bind_eq_some_iff.mp H; obtain ⟨b3, H8, H⟩ := H
 replace H : ((laws_toIntS.f k l0_1).bind fun b4 => ((laws_toIntSS.f k l0_2).bind fun b7 => (some (b3, b4, b7)))) = some (r1, r2, r3) := H
 have A2 := mk_ H8; clear H8; replace H := Option.bind_eq_some_iff.mp H; obtain ⟨b4, t8, H⟩ := H
 replace H : ((laws_toIntSS.f k l0_2).bind fun b7 => (some (b3, b4, b7))) = some (r1, r2, r3) := H
 have A3 := mk_ t8; clear t8; replace H := Option.bind_eq_some_iff.mp H; obtain ⟨b7, t9, H⟩ := H
 replace H : (some (b3, b4, b7)) = some (r1, r2, r3) := H
 have A4 := mk_ t9; clear t9
 simp only [Option.some.injEq, Prod.mk.injEq] at H
 obtain ⟨rfl, rfl, rfl⟩ := H
 go_enter Try.func44, Try.ntmps44
 go_wp2_with (first | ((with_reducible refine gd_ 1 rfl ?_); refine box_event ?hg (N := 1) ?hd (cs := #[.slice A0_0 l0_0.length c0_0, .slice A0_1 l0_1.length c0_1, .slice A0_2 l0_2.length c0_2]) (t := 72) ?hr ?_; (case hd => rfl); (case hg => rfl); (case hr => exact hr_); intro o3 hg w5 hbox hb; have a8 := mk_ (hbox); have y6 := gb_ hg HB; replace HB := bp_ HB hb; have H9 := y6; clear hb hbox hg) | ((with_reducible refine gd_ 2 rfl ?_); refine box_event ?hg (N := 2) ?hd (cs := #[.slice none 0 0, .slice none 0 0, .slice none 0 0]) (t := 75) ?hr ?_; (case hd => rfl); (case hg => rfl); (case hr => exact hr_); intro b5 hg w6 hbox hb; have a9 := mk_ (hbox); have y7 := gb_ hg HB; replace HB := bp_ HB hb; have y8 := y7; have g4 := nb_ hg a8; replace a8 := bl_ a8 hb; have l6 := ns_ g4; clear hb hbox hg) | ((with_reducible refine gd_ 3 rfl ?_); refine box_event ?hg (N := 3) ?hd (cs := #[.slice none 0 0, .slice none 0 0, .slice none 0 0]) (t := 75) ?hr ?_; (case hd => rfl); (case hg => rfl); (case hr => exact hr_); intro b8 hg w7 hbox hb; have a7 := mk_ (hbox); have y9 := gb_ hg HB; replace HB := bp_ HB hb; have d7 := y9; have c1 := nb_ hg a8; replace a8 := bl_ a8 hb; have l7 := ns_ c1; have b2 := nb_ hg a9; replace a9 := bl_ a9 hb; have l8 := ns_ b2; clear hb hbox hg; have J4 := g4.out; have J5 := l6.out; have J6 := c1.out; have J7 := l7.out; have B0 := bc0_ a8; have B1 := bc1_ a8; have B3 := bc2_ a8; have B4 := bf_ a8 0; have B5 := bf_ a8 1; have B6 := bf_ a8 2) | ((with_reducible refine gc_ 65 rfl ?_); refine gl_ (some 6) rfl Try.func65 #[.slice A0_0 l0_0.length c0_0] ?_; (with_reducible refine (laws_toIntS.calls k _ _ l0_0 b3 _ ?d5 ?d6 A2.out).mono ?_); (case d5 => exact cw_ (Kd.C_below t2.out HB.out)); (case d6 => exact t3.out); rintro e n7 ⟨v175, rfl, l4, hb⟩; refine ⟨_, rfl, ?_⟩; have d4 := mk_ (Kd.R_lower l4 (below_size (by exact HB.out))); replace a8 := bl_ a8 hb; replace a9 := bl_ a9 hb; replace a7 := bl_ a7 hb; replace HB := bp_ HB hb; (try clear hb); (try clear p7); (try clear hk); (try clear hi); (try clear l4); obtain ⟨d8, d9, G6⟩ := Kd.R_slice d4.out; subst G6; have I0 := l8.out; have I1 := b2.out; have B7 := bc0_ a7; have B8 := bc1_ a7; have B9 := bc2_ a7; have C0 := bf_ a7 0; have C1 := bf_ a7 1; have C2 := bf_ a7 2; have C3 := bc0_ a8; have C4 := bc1_ a8; have C5 := bc2_ a8; have C6 := bf_ a8 0; have C7 := bf_ a8 1; have C8 := bf_ a8 2) | ((with_reducible refine gc_ 65 rfl ?_); refine gl_ (some 10) rfl Try.func65 #[.slice A0_1 l0_1.length c0_1] ?_; (with_reducible refine (laws_toIntS.calls k _ _ l0_1 b4 _ ?d5 ?d6 A3.out).mono ?_); (case d5 => exact Kd.C_below t4.out (by repeat (first | (with_reducible first | exact HB.out | apply below_alloc | apply pw_below_drewN | apply below_drew1 | refine below_set ?_ d7.out) | exact HB.out))); (case d6 => exact t5.out); rintro e L3 ⟨v178, rfl, l4, hb⟩; refine ⟨_, rfl, ?_⟩; have h7 := mk_ (Kd.R_lower (Kd.R_new' l4 (Kd.R_lt (by (with_reducible repeat (first | apply Kd.R_alloc | apply Kd.R_drewN | apply Kd.R_drew)); exact (Kd.R_mono (Kd.R_far (p := ⟨b8, 0, none⟩) (Kd.R_types d4.out a7.out (by decide)) (fun _ hk => hk.2) (.slice d8 b3.length d9)) (fun _ h_ => h_.1))))) (below_size (by repeat (first | (with_reducible first | exact HB.out | apply below_alloc | apply pw_below_drewN | apply below_drew1 | refine below_set ?_ d7.out) | exact HB.out)))); replace d4 := mk_ (Kd.R_elder' (by (with_reducible repeat (first | apply Kd.R_alloc | apply Kd.R_drewN | apply Kd.R_drew)); exact (Kd.R_mono (Kd.R_far (p := ⟨b8, 0, none⟩) (Kd.R_types d4.out a7.out (by decide)) (fun _ hk => hk.2) (.slice d8 b3.length d9)) (fun _ h_ => h_.1))) (Kd.R_base l4) hb); replace a8 := mk_ (blk_below (g := o3) (o := .cells #[.slice A0_0 l0_0.length c0_0, .slice A0_1 l0_1.length c0_1, .slice A0_2 l0_2.length c0_2] 72 (0, 0)) (by (with_reducible repeat (first | refine blk_drewN ?_ _ | refine blk_drew ?_ | refine blk_alloc ?_ _)); refine blk_far ?_ c1.out _; (with_reducible repeat (first | refine blk_drewN ?_ _ | refine blk_drew ?_ | refine blk_alloc ?_ _)); exact a8.out) hb); replace a9 := mk_ (blk_below (g := b5) (o := .cells #[.slice none 0 0, .slice none 0 0, .slice none 0 0] 75 (0, 0)) (by (with_reducible repeat (first | refine blk_drewN ?_ _ | refine blk_drew ?_ | refine blk_alloc ?_ _)); refine blk_far ?_ b2.out _; (with_reducible repeat (first | refine blk_drewN ?_ _ | refine blk_drew ?_ | refine blk_alloc ?_ _)); exact a9.out) hb); replace a7 := mk_ (blk_below (g := b8) (o := .cells #[.slice d8 b3.length d9, .slice none 0 0, .slice none 0 0] 75 (0, 0)) (by (with_reducible repeat (first | refine blk_drewN ?_ _ | refine blk_drew ?_ | refine blk_alloc ?_ _)); refine blk_put (cs := #[.slice none 0 0, .slice none 0 0, .slice none 0 0]) ?_ 0 _ rfl; (with_reducible repeat (first | refine blk_drewN ?_ _ | refine blk_drew ?_ | refine blk_alloc ?_ _)); exact a7.out) hb); replace HB := mk_ (below_step (by repeat (first | (with_reducible first | exact HB.out | apply below_alloc | apply pw_below_drewN | apply below_drew1 | refine below_set ?_ d7.out) | exact HB.out)) hb); (try clear hb); (try clear p7); (try clear hk); (try clear hi); (try clear l4); obtain ⟨g1, g2, G7⟩ := Kd.R_slice h7.out; subst G7; have C9 := bc0_ a7; have D0 := bc1_ a7; have D1 := bc2_ a7; have D2 := bf_ a7 0; have D3 := bf_ a7 1; have D4 := bf_ a7 2; have D5 := bc0_ a8; have D6 := bc1_ a8; have D7 := bc2_ a8; have D8 := bf_ a8 0; have D9 := bf_ a8 1; have E0 := bf_ a8 2) | ((with_reducible refine gc_ 97 rfl ?_); refine gl_ (some 14) rfl Try.func97 #[.slice A0_2 l0_2.length c0_2] ?_; (with_reducible refine (laws_toIntSS.calls k _ _ l0_2 b7 _ ?d5 ?d6 A4.out).mono ?_); (case d5 => exact Kd.C_below t6.out (by repeat (first | (with_reducible first | exact HB.out | apply below_alloc | apply pw_below_drewN | apply below_drew1 | refine below_set ?_ d7.out) | exact HB.out))); (case d6 => exact t7.out); rintro e L4 ⟨v181, rfl, l4, hb⟩; refine ⟨_, rfl, ?_⟩; have o4 := mk_ (Kd.S_lower (Kd.S_new' (Kd.S_new' l4 (Kd.R_lt (by (with_reducible repeat (first | apply Kd.R_alloc | apply Kd.R_drewN | apply Kd.R_drew)); exact (Kd.R_mono (Kd.R_far (p := ⟨b8, 1, none⟩) (Kd.R_types d4.out a7.out (by decide)) (fun _ hk => hk.2) (.slice g1 b4.length g2)) (fun _ h_ => h_.1))))) (Kd.R_lt (by (with_reducible repeat (first | apply Kd.R_alloc | apply Kd.R_drewN | apply Kd.R_drew)); exact (Kd.R_mono (Kd.R_far (p := ⟨b8, 1, none⟩) (Kd.R_types h7.out a7.out (by decide)) (fun _ hk => hk.2) (.slice g1 b4.length g2)) (fun _ h_ => h_.1))))) (below_size (by repeat (first | (with_reducible first | exact HB.out | apply below_alloc | apply pw_below_drewN | apply below_drew1 | refine below_set ?_ d7.out) | exact HB.out)))); replace d4 := mk_ (Kd.R_below (by (with_reducible repeat (first | apply Kd.R_alloc | apply Kd.R_drewN | apply Kd.R_drew)); exact (Kd.R_mono (Kd.R_far (p := ⟨b8, 1, none⟩) (Kd.R_types d4.out a7.out (by decide)) (fun _ hk => hk.2) (.slice g1 b4.length g2)) (fun _ h_ => h_.1))) hb); replace h7 := mk_ (Kd.R_below (by (with_reducible repeat (first | apply Kd.R_alloc | apply Kd.R_drewN | apply Kd.R_drew)); exact (Kd.R_mono (Kd.R_far (p := ⟨b8, 1, none⟩) (Kd.R_types h7.out a7.out (by decide)) (fun _ hk => hk.2) (.slice g1 b4.length g2)) (fun _ h_ => h_.1))) hb); replace a8 := mk_ (blk_below (g := o3) (o := .cells #[.slice A0_0 l0_0.length c0_0, .slice A0_1 l0_1.length c0_1, .slice A0_2 l0_2.length c0_2] 72 (0, 0)) (by (with_reducible repeat (first | refine blk_drewN ?_ _ | refine blk_drew ?_ | refine blk_alloc ?_ _)); refine blk_far ?_ c1.out _; (with_reducible repeat (first | refine blk_drewN ?_ _ | refine blk_drew ?_ | refine blk_alloc ?_ _)); exact a8.out) hb); replace a9 := mk_ (blk_below (g := b5) (o := .cells #[.slice none 0 0, .slice none 0 0, .slice none 0 0] 75 (0, 0)) (by (with_reducible repeat (first | refine blk_drewN ?_ _ | refine blk_drew ?_ | refine blk_alloc ?_ _)); refine blk_far ?_ b2.out _; (with_reducible repeat (first | refine blk_drewN ?_ _ | refine blk_drew ?_ | refine blk_alloc ?_ _)); exact a9.out) hb); replace a7 := mk_ (blk_below (g := b8) (o := .cells #[.slice d8 b3.length d9, .slice g1 b4.length g2, .slice none 0 0] 75 (0, 0)) (by (with_reducible repeat (first | refine blk_drewN ?_ _ | refine blk_drew ?_ | refine blk_alloc ?_ _)); refine blk_put (cs := #[.slice d8 b3.length d9, .slice none 0 0, .slice none 0 0]) ?_ 1 _ rfl; (with_reducible repeat (first | refine blk_drewN ?_ _ | refine blk_drew ?_ | refine blk_alloc ?_ _)); exact a7.out) hb); replace HB := mk_ (below_step (by repeat (first | (with_reducible first | exact HB.out | apply below_alloc | apply pw_below_drewN | apply below_drew1 | refine below_set ?_ d7.out) | exact HB.out)) hb); (try clear hb); (try clear p7); (try clear hk); (try clear hi); (try clear l4); obtain ⟨j1, j2, G8⟩ := Kd.S_slice o4.out; subst G8; have E1 := bc0_ a7; have E2 := bc1_ a7; have E3 := bc2_ a7; have E4 := bf_ a7 0; have E5 := bf_ a7 1; have E6 := bf_ a7 2; have E7 := bc0_ a9; have E8 := bc1_ a9; have E9 := bc2_ a9; have F0 := bf_ a9 0; have F1 := bf_ a9 1; have F2 := bf_ a9 2))
 refine bodyPost_ret (results_cell_row rfl _ _ b5 75 #[.slice d8 b3.length d9, .slice g1 b4.length g2, .slice j1 b7.length j2] (0, 0) _ rfl (by (with_reducible repeat (first | refine blk_drewN ?_ _ | refine blk_drew ?_ | refine blk_alloc ?_ _)); refine blk_put (cs := #[.slice d8 b3.length d9, .slice g1 b4.length g2, .slice none 0 0]) ?_ 2 _ rfl; (with_reducible repeat (first | refine blk_drewN ?_ _ | refine blk_drew ?_ | refine blk_alloc ?_ _)); refine blk_put (cs := #[.slice d8 b3.length d9, .slice none 0 0, .slice none 0 0]) ?_ 1 _ rfl; (with_reducible repeat (first | refine blk_drewN ?_ _ | refine blk_drew ?_ | refine blk_alloc ?_ _)); refine blk_put (cs := #[.slice none 0 0, .slice none 0 0, .slice none 0 0]) ?_ 0 _ rfl; (with_reducible repeat (first | refine blk_drewN ?_ _ | refine blk_drew ?_ | refine blk_alloc ?_ _)); refine blk_far ?_ b2.out _; (with_reducible repeat (first | refine blk_drewN ?_ _ | refine blk_drew ?_ | refine blk_alloc ?_ _)); exact a9.out) Try.underlying75 rfl (by kernel_rfl)) rfl ?_
 exact ⟨_, _, _, re_, by (with_reducible repeat (first | apply Kd.R_alloc | apply Kd.R_drewN | apply Kd.R_drew)); exact Kd.R_mono (Kd.R_far (p := ⟨b5, 2, none⟩) (Kd.R_far (p := ⟨b5, 1, none⟩) (Kd.R_far (p := ⟨b5, 0, none⟩) (Kd.R_far (p := ⟨b8, 2, none⟩) (Kd.R_types (Kd.R_types d4.out a7.out (by decide)) a9.out (by decide)) (fun _ hk => hk.1.2) (.slice j1 b7.length j2)) (fun _ hk => hk.2) (.slice d8 b3.length d9)) (fun _ hk => hk.2) (.slice g1 b4.length g2)) (fun _ hk => hk.2) (.slice j1 b7.length j2)) (fun _ hk => hk.1.1.2), by (with_reducible repeat (first | apply Kd.R_alloc | apply Kd.R_drewN | apply Kd.R_drew)); exact Kd.R_mono (Kd.R_far (p := ⟨b5, 2, none⟩) (Kd.R_far (p := ⟨b5, 1, none⟩) (Kd.R_far (p := ⟨b5, 0, none⟩) (Kd.R_far (p := ⟨b8, 2, none⟩) (Kd.R_types (Kd.R_types h7.out a7.out (by decide)) a9.out (by decide)) (fun _ hk => hk.1.2) (.slice j1 b7.length j2)) (fun _ hk => hk.2) (.slice d8 b3.length d9)) (fun _ hk => hk.2) (.slice g1 b4.length g2)) (fun _ hk => hk.2) (.slice j1 b7.length j2)) (fun _ hk => hk.1.1.2), by (with_reducible repeat (first | apply Kd.S_alloc | apply Kd.S_drewN | apply Kd.S_drew)); exact Kd.S_mono (Kd.S_far (p := ⟨b5, 2, none⟩) (Kd.S_far (p := ⟨b5, 1, none⟩) (Kd.S_far (p := ⟨b5, 0, none⟩) (Kd.S_far (p := ⟨b8, 2, none⟩) (Kd.S_types (Kd.S_types o4.out a7.out (by decide)) a9.out (by decide)) (fun _ hk => hk.1.2) (.slice j1 b7.length j2)) (fun _ hk => hk.2) (.slice d8 b3.length d9)) (fun _ hk => hk.2) (.slice g1 b4.length g2)) (fun _ hk => hk.2) (.slice j1 b7.length j2)) (fun _ hk => ⟨hk.1.1.1.2, hk.1.1.2⟩), by repeat (first | (with_reducible first | exact HB.out | apply below_alloc | apply pw_below_drewN | apply below_drew1 | refine below_set ?_ y8.out | refine below_set ?_ d7.out) | exact HB.out)⟩

/-! ### impl_in: function 76 -/
def impl_in.f (a0 : Int) (a1 : Int) (a2 : Int) : Option (Bool) := if a0 ≥ a1 then (some (decide (a0 ≤ a2))) else (some false)
set_option maxHeartbeats 8000000 in
set_option maxRecDepth 100000 in
theorem impl_in.calls (a0 : Int) (a1 : Int) (a2 : Int) (r : Bool) (w : World) (h : impl_in.f a0 a1 a2 = some r) :
  Calls Try.prog 76 #[.int .i64 a0, .int .i64 a1, .int .i64 a2] w fun e w' => e = .returned (.bool r) ∧ Drawn0 w w' := by
 have H : (if a0 ≥ a1 then (some (decide (a0 ≤ a2))) else (some false)) = some r := h
 clear h; by_cases c4 : a0 ≥ a1
 ·rw [if_pos c4] at H; have n2 : decide (a1 ≤ a0) = true := decide_eq_true c4; clear c4; obtain rfl := Option.some.inj H
  go_enter Try.func76, Try.ntmps76
  go_wp2; go_ret
  exact ⟨by first | rfl | (simp; done) | (simp [*]; done), by repeat (first | exact Drawn0.refl _ | apply Drawn0.step)⟩
 ·rw [if_neg c4] at H; have n2 : decide (a1 ≤ a0) = false := decide_eq_false c4; clear c4; obtain rfl := Option.some.inj H
  go_enter Try.func76, Try.ntmps76
  go_wp2; go_ret
  exact ⟨by first | rfl | (simp; done) | (simp [*]; done), by repeat (first | exact Drawn0.refl _ | apply Drawn0.step)⟩

/-! ### impl_piece: function 77 -/
def impl_piece.l0 : Nat → List Int → Int → Int → Option (Int)
 | 0, _, _, _ => none
 | k + 1, x0, x1, x5 => if (wrap64 (x5 + 2)) < (x0.length : Int) then (if 0 ≤ (wrap64 (x5 + 1)) then (if (wrap64 (x5 + 1)) < (x0.length : Int) then (if (rd x0 (wrap64 (x5 + 1))) ≤ x1 then (impl_piece.l0 k x0 x1 (wrap64 (x5 + 1))) else (some x5)) else (none)) else (none)) else (some x5)
def impl_piece.f (k : Nat) (l0 : List Int) (a1 : Int) : Option (Int) := impl_piece.l0 k l0 a1 0
theorem impl_piece.mono_l : ∀ k, (∀ y0 y1 y2, LeO (impl_piece.l0 k y0 y1 y2) (impl_piece.l0 (k + 1) y0 y1 y2))
 | 0 => fun _ _ _ r h => by simp [impl_piece.l0] at h
 | k + 1 => by
  have d3 := impl_piece.mono_l k
  ·intro y0 y1 y2
   unfold impl_piece.l0
   repeat' first
   | (with_reducible exact d3 _ _ _)
   | (with_reducible exact LeO.refl _)
   | (with_reducible exact LeO.none _)
   | (with_reducible refine LeO.ite ?_ ?_)
   | (with_reducible refine LeO.bind ?_ (fun _ => ?_))
   | exact d3 _ _ _
   | exact LeO.none _
   | refine LeO.ite ?_ ?_
   | refine LeO.bind ?_ (fun _ => ?_)
theorem impl_piece.mono : ∀ a0 a1 k, LeO (impl_piece.f k a0 a1) (impl_piece.f (k + 1) a0 a1) := by
 intro a0 a1 k
 have d3 := impl_piece.mono_l k
 unfold impl_piece.f
 repeat' first
   | (with_reducible exact d3 _ _ _)
   | (with_reducible exact LeO.refl _)
   | (with_reducible exact LeO.none _)
   | (with_reducible refine LeO.ite ?_ ?_)
   | (with_reducible refine LeO.bind ?_ (fun _ => ?_))
   | exact d3 _ _ _
   | exact LeO.none _
   | refine LeO.ite ?_ ?_
   | refine LeO.bind ?_ (fun _ => ?_)
set_option maxHeartbeats 8000000 in
set_option maxRecDepth 100000 in
theorem impl_piece.calls (k : Nat) (A0 : Option Addr) (c0 : Nat) (l0 : List Int) (a1 : Int) (r : Int) (w : World) (hr0 : Kd.C (Kd.int .i64) w A0 l0.length l0) (hc0 : l0.length ≤ c0) (h : impl_piece.f k l0 a1 = some r) :
  Calls Try.prog 77 #[.slice A0 l0.length c0, .int .i64 a1] w fun e w' => e = .returned (.int .i64 r) ∧ Drawn0 w w' := by
 have l3 := mk_ hr0; have F5 := mk_ hc0; clear hr0 hc0
 have H : (impl_piece.l0 k l0 a1 0) = some r := h
 clear h
 have H' := mk_ H
 clear H
 go_enter Try.func77, Try.ntmps77
 go_wp2
 go_loopg [5] k (fun kq v5 w' => ∃ (g8 : Int), v5 = .int .i64 g8 ∧ Aside0 (impl_piece.l0 kq l0 a1 g8 = some r) ∧ Aside0 (kq ≤ k) ∧ Drawn0 w w')
 case atStart => exact ⟨(0), rf_, H', ⟨Nat.le_refl _⟩, by repeat (first | exact Drawn0.refl _ | apply Drawn0.step)⟩
 case round =>
  clear H'
  obtain ⟨g8, rfl, HA, j0, ⟨m1, rfl⟩⟩ := hrel
  cases gk with
  | zero => exact absurd HA.out (by simp [impl_piece.l0])
  | succ k1 =>
   have H := HA.out; clear HA
   simp only [impl_piece.l0] at H
   by_cases c3 : (wrap64 (g8 + 2)) < (l0.length : Int)
   ·rw [if_pos c3] at H; have l9 : decide ((wrap64 (g8 + 2)) < (l0.length : Int)) = true := decide_eq_true c3; clear c3
    obtain ⟨g9, m3⟩ : ∃ j_ : Int, (wrap64 (g8 + 1)) = j_ := ⟨_, rfl⟩
    replace H : (if 0 ≤ (g9) then (if (g9) < (l0.length : Int) then (if (rd l0 (g9)) ≤ a1 then (impl_piece.l0 k1 l0 a1 g9) else (some g8)) else (none)) else (none)) = some r := by first | (rw [m3] at H; exact H) | (simp only [m3] at H ⊢; exact H)
    have hji4w : (IntKind.i64.wrap (g8 + 1)) = g9 := (i64_w _).trans m3
    by_cases c5 : 0 ≤ (g9)
    ·rw [if_pos c5] at H; have G9 : decide (0 ≤ (g9)) = true := decide_eq_true c5; clear c5; by_cases c6 : (g9) < (l0.length : Int)
     ·rw [if_pos c6] at H; have m2 : decide ((g9) < (l0.length : Int)) = true := decide_eq_true c6; clear c6; by_cases c7 : (rd l0 (g9)) ≤ a1
      ·rw [if_pos c7] at H; have o8 : decide ((rd l0 (g9)) ≤ a1) = true := decide_eq_true c7; clear c7
       have H' := mk_ H
       clear H
       have j3 : 0 ≤ ((g9) : Int) := od_
       have j4 : (g9) < (l0.length : Int) := od_
       obtain ⟨A1, q3, n3⟩ := Kd.at_int l3.out (g9) j3 j4; cases q3; replace j3 := eq_true j3; replace j4 := eq_true j4; go_wp2; go_roundg k1
       case measure => have := j0.out; omega
       case rel => exact ⟨(g9), (by first | rfl | (simp; done) | (simp only [← m3] <;> (first | rfl | simp)) | (simp [*]; done)), H', ⟨by have := j0.out; omega⟩, by repeat (first | exact Drawn0.refl _ | apply Drawn0.step)⟩
      ·rw [if_neg c7] at H; have o8 : decide ((rd l0 (g9)) ≤ a1) = false := decide_eq_false c7; clear c7; obtain rfl := Option.some.inj H
       have j3 : 0 ≤ ((g9) : Int) := od_
       have j4 : (g9) < (l0.length : Int) := od_
       obtain ⟨A1, q3, n3⟩ := Kd.at_int l3.out (g9) j3 j4; cases q3; replace j3 := eq_true j3; replace j4 := eq_true j4; go_wp2; go_ret
       exact ⟨by first | rfl | (simp; done) | (simp only [← m3] <;> (first | rfl | simp)) | (simp [*]; done), by repeat (first | exact Drawn0.refl _ | apply Drawn0.step)⟩
     ·rw [if_neg c6] at H
      exact absurd H (by simp)
    ·rw [if_neg c5] at H
     exact absurd H (by simp)
   ·rw [if_neg c3] at H; have l9 : decide ((wrap64 (g8 + 2)) < (l0.length : Int)) = false := decide_eq_false c3; clear c3; obtain rfl := Option.some.inj H; go_wp2; go_ret
    exact ⟨by first | rfl | (simp; done) | (simp [*]; done), by repeat (first | exact Drawn0.refl _ | apply Drawn0.step)⟩

/-! ### impl_size: function 129 -/
def impl_size.f (a0 : Int) : Option (Int) := some (mx a0 (wrap64 (-a0)))
set_option maxHeartbeats 8000000 in
set_option maxRecDepth 100000 in
theorem impl_size.calls (a0 : Int) (r : Int) (w : World) (h : impl_size.f a0 = some r) :
  Calls Try.prog 129 #[.int .i64 a0] w fun e w' => e = .returned (.int .i64 r) ∧ Below w.heap.size w w' := by
 have HB := mk_ (Below.refl w.heap.size w)
 have H : (some (mx a0 (wrap64 (-a0)))) = some r := h
 clear h
 obtain ⟨I2, n4⟩ : ∃ j_ : Int, (mx a0 (wrap64 (-a0))) = j_ := ⟨_, rfl⟩
 replace H : (some I2) = some r := by first | (rw [n4] at H; exact H) | (simp only [n4] at H ⊢; exact H)
 have I3 : (if a0 < (wrap64 (-a0)) then (wrap64 (-a0)) else a0) = I2 := n4
 obtain rfl := Option.some.inj H
 go_enter Try.func129, Try.ntmps129
 go_wp2; go_ret
 exact ⟨by first | rfl | (simp [errW_none, errW_some] <;> rfl) | (simp only [← n4]; first | rfl | (simp [errW_none, errW_some] <;> rfl)) | (simp [*, errW_none, errW_some] <;> rfl), hw_ HB⟩

/-! ### impl_gcd: function 120 -/
def impl_gcd.l0 : Nat → Int → Int → Option (Int)
 | 0, _, _ => none
 | k + 1, x0, x1 => if x1 = 0 then ((impl_size.f x0).bind fun m4 => (some m4)) else (impl_gcd.l0 k x1 (Int.tmod x0 x1))
def impl_gcd.f (k : Nat) (a0 : Int) (a1 : Int) : Option (Int) := impl_gcd.l0 k a0 a1
theorem impl_gcd.mono_l : ∀ k, (∀ y0 y1, LeO (impl_gcd.l0 k y0 y1) (impl_gcd.l0 (k + 1) y0 y1))
 | 0 => fun _ _ r h => by simp [impl_gcd.l0] at h
 | k + 1 => by
  have d3 := impl_gcd.mono_l k
  ·intro y0 y1
   unfold impl_gcd.l0
   repeat' first
   | (with_reducible exact d3 _ _)
   | (with_reducible exact LeO.refl _)
   | (with_reducible exact LeO.none _)
   | (with_reducible refine LeO.ite ?_ ?_)
   | (with_reducible refine LeO.bind ?_ (fun _ => ?_))
   | exact d3 _ _
   | exact LeO.none _
   | refine LeO.ite ?_ ?_
   | refine LeO.bind ?_ (fun _ => ?_)
theorem impl_gcd.mono : ∀ a0 a1 k, LeO (impl_gcd.f k a0 a1) (impl_gcd.f (k + 1) a0 a1) := by
 intro a0 a1 k
 have d3 := impl_gcd.mono_l k
 unfold impl_gcd.f
 repeat' first
   | (with_reducible exact d3 _ _)
   | (with_reducible exact LeO.refl _)
   | (with_reducible exact LeO.none _)
   | (with_reducible refine LeO.ite ?_ ?_)
   | (with_reducible refine LeO.bind ?_ (fun _ => ?_))
   | exact d3 _ _
   | exact LeO.none _
   | refine LeO.ite ?_ ?_
   | refine LeO.bind ?_ (fun _ => ?_)
set_option maxHeartbeats 8000000 in
set_option maxRecDepth 100000 in
theorem impl_gcd.calls (k : Nat) (a0 : Int) (a1 : Int) (r : Int) (w : World) (h : impl_gcd.f k a0 a1 = some r) :
  Calls Try.prog 120 #[.int .i64 a0, .int .i64 a1] w fun e w' => e = .returned (.int .i64 r) ∧ Below w.heap.size w w' := by
 have HB := mk_ (Below.refl w.heap.size w)
 have H : (impl_gcd.l0 k a0 a1) = some r := h
 clear h
 have H' := mk_ H
 clear H
 go_enter Try.func120, Try.ntmps120
 go_wp2
 repeat (go_quiet (fail); try go_wp2)
 go_loopg [0, 1] k (fun kq v0 v1 w' => ∃ (j5 : Int) (g3 : Int), v0 = .int .i64 j5 ∧ v1 = .int .i64 g3 ∧ Aside0 (impl_gcd.l0 kq j5 g3 = some r) ∧ Aside0 (kq ≤ k) ∧ Aside0 (Below w.heap.size w w'))
 case atStart => exact ⟨(a0), (a1), rf_, rf_, H', ⟨Nat.le_refl _⟩, ⟨hw_ HB⟩⟩
 case round =>
  clear H'
  obtain ⟨j5, g3, rfl, rfl, HA, j0, HB⟩ := hrel
  cases gk with
  | zero => exact absurd HA.out (by simp [impl_gcd.l0])
  | succ k1 =>
   have H := HA.out; clear HA
   simp only [impl_gcd.l0] at H
   by_cases c3 : g3 = 0
   ·rw [if_pos c3] at H; have l9 : (g3 == 0) = true := beq_iff_eq.mpr c3; have o7 : (g3 != 0) = false := bne_eq_false_iff_eq.mpr c3; clear c3; replace H := Option.bind_eq_some_iff.mp H; obtain ⟨m4, t9, H⟩ := H; (try dsimp only at H); have A4 := mk_ t9; clear t9; obtain rfl := Option.some.inj H
    go_wp2_with (first | (go_at_call 129; (with_reducible refine (impl_size.calls j5 m4 _ A4.out).mono ?_); rintro e w5 ⟨rfl, hb⟩; replace HB := hk_ HB hb; (try clear hb); (try clear p7); (try clear hk); (try clear hi)))
    repeat (go_quiet (first | (go_at_call 129; (with_reducible refine (impl_size.calls j5 m4 _ A4.out).mono ?_); rintro e w5 ⟨rfl, hb⟩; replace HB := hk_ HB hb; (try clear hb); (try clear p7); (try clear hk); (try clear hi))); try go_wp2_with (first | (go_at_call 129; (with_reducible refine (impl_size.calls j5 m4 _ A4.out).mono ?_); rintro e w5 ⟨rfl, hb⟩; replace HB := hk_ HB hb; (try clear hb); (try clear p7); (try clear hk); (try clear hi))))
    go_ret
    exact ⟨re_, hw_ HB⟩
   ·rw [if_neg c3] at H; have l9 : (g3 == 0) = false := beq_eq_false_iff_ne.mpr c3; have o7 : (g3 != 0) = true := bne_iff_ne.mpr c3
    have H' := mk_ H
    clear H; go_wp2
    repeat (go_quiet (fail); try go_wp2)
    go_roundg k1
    case measure => have := j0.out; omega
    case rel => exact ⟨(g3), (Int.tmod j5 g3), rf_, rf_, H', ⟨by have := j0.out; omega⟩, ⟨hw_ HB⟩⟩

/-! ### impl_frac: function 78 -/
def impl_frac.f (k : Nat) (a0 : Int) (a1 : Int) : Option (Int × Int) := (impl_gcd.f k a0 a1).bind fun b6 => (if b6 = 0 then (none) else (some (wrap64 (Int.tdiv a0 b6), wrap64 (Int.tdiv a1 b6))))
theorem impl_frac.mono : ∀ a0 a1 k, LeO (impl_frac.f k a0 a1) (impl_frac.f (k + 1) a0 a1) := by
 intro a0 a1 k
 unfold impl_frac.f
 repeat' first
   | (with_reducible exact impl_gcd.mono _ _ _)
   | (with_reducible exact LeO.refl _)
   | (with_reducible exact LeO.none _)
   | (with_reducible refine LeO.ite ?_ ?_)
   | (with_reducible refine LeO.bind ?_ (fun _ => ?_))
   | exact impl_gcd.mono _ _ _
   | exact LeO.none _
   | refine LeO.ite ?_ ?_
   | refine LeO.bind ?_ (fun _ => ?_)
def impl_frac.T2 : Bool × List (List Nat × List Nat) := (true, [([], []), ([], []), ([0, 1], [0, 1]), ([], []), ([], []), ([3, 4], [3, 4]), ([2, 5], [2, 5]), ([6, 0, 1, 2, 3, 4, 5, 6], [6])])
def impl_frac.B2 : List Nat := [0, 0, 3, 0, 0, 24, 63, 127]
theorem impl_frac.tab2 : rtab .any (opsOf Try.f78 2) = impl_frac.T2 := by kernel_rfl
theorem impl_frac.bits2 : waitsOk impl_frac.T2.2 impl_frac.B2 = true := by kernel_rfl
set_option maxHeartbeats 8000000 in
set_option maxRecDepth 100000 in
theorem impl_frac.calls (k : Nat) (a0 : Int) (a1 : Int) (r1 : Int) (r2 : Int) (w : World) (h : impl_frac.f k a0 a1 = some (r1, r2)) :
  Calls Try.prog 78 #[.int .i64 a0, .int .i64 a1] w fun e w' => e = .returned (.agg #[.int .i64 r1, .int .i64 r2]) ∧ Below w.heap.size w w' := by
 have J8 := Try.underlying48
 have HB := mk_ (Below.refl w.heap.size w)
 have H : ((impl_gcd.f k a0 a1).bind fun b6 => (if b6 = 0 then (none) else (some (wrap64 (Int.tdiv a0 b6), wrap64 (Int.tdiv a1 b6))))) = some (r1, r2) := h
 clear h; replace H := Option.bind_eq_some_iff.mp H; obtain ⟨b6, t8, H⟩ := H
 replace H : (if b6 = 0 then (none) else (some (wrap64 (Int.tdiv a0 b6), wrap64 (Int.tdiv a1 b6)))) = some (r1, r2) := H
 have A3 := mk_ t8; clear t8; by_cases c4 : b6 = 0
 ·rw [if_pos c4] at H
  exact absurd H (by simp)
 ·rw [if_neg c4] at H; have n2 : (b6 == 0) = false := beq_eq_false_iff_ne.mpr c4; have J9 : (b6 != 0) = true := bne_iff_ne.mpr c4
  simp only [Option.some.injEq, Prod.mk.injEq] at H
  obtain ⟨rfl, rfl⟩ := H
  go_enter Try.func78, Try.ntmps78
  try go_wp2_with (first | ((with_reducible refine gd_ 4 rfl ?_); refine box_event ?hg (N := 4) ?hd (cs := #[.int .i64 0, .int .i64 0]) (t := 48) ?hr ?_; (case hd => rfl); (case hg => rfl); (case hr => exact hr_); intro m5 hg w5 hbox hb; have d0 := mk_ (hbox); have A5 := gb_ hg HB; replace HB := bp_ HB hb; have A6 := A5; clear hb hbox hg) | ((with_reducible refine gc_ 120 rfl ?_); refine gl_ (some 8) rfl Try.func120 #[.int .i64 a0, .int .i64 a1] ?_; (with_reducible refine (impl_gcd.calls k a0 a1 b6 _ A3.out).mono ?_); rintro e w6 ⟨rfl, hb⟩; refine ⟨_, rfl, ?_⟩; replace d0 := bl_ d0 hb; replace HB := bp_ HB hb; (try clear hb); (try clear p7); (try clear hk); (try clear hi)))
  replace d0 := dB_ d0; replace HB := dH_ HB
  refine start_ (n := 8) (S := fun w' => True) (ds := []) (bs_ 8 0) (by kernel_rfl) rfl rfl trivial (fun hHeld => ?_); refine with_tabW impl_frac.tab2 impl_frac.bits2 (fun HT_ HW_ => ?_)
  generalize w6.drew = w7 at d0 HB hHeld ⊢
  refine pu_ HT_ 0 9 (bs_ 8 1) ?_; refine pu_ HT_ 1 10 (bs_ 8 3) ?_; refine pu_ HT_ 2 11 (bs_ 8 7) ?_; refine pu_ HT_ 3 12 (bs_ 8 15) ?_; refine pu_ HT_ 4 13 (bs_ 8 31) ?_; refine pu_ HT_ 5 14 (bs_ 8 63) ?_; refine pu_ HT_ 6 15 (bs_ 8 127) ?_
  refine one_ (i := 7) (N := none) (bs_ 8 255) rfl rfl (one_of HT_.out (by kernel_rfl)) (by decide) (fun K hK => ?_)
  have L5 : w7.cell? ⟨m5, 0, none⟩ = some (.int .i64 0) := bc0_ d0
  have L0 := blk_frozen d0.out 0
  have L6 : w7.cell? ⟨m5, 1, none⟩ = some (.int .i64 0) := bc1_ d0
  have L1 := blk_frozen d0.out 1
  refine skip_ (w1 := ?_) (by rfl) rfl ?_ ?_
  rotate_left
  ·go_simp
   rfl
  refine hK.out _ _ trivial (fun hHeld => ?_)
  clear hK K
  refine done_ (done_of HT_.out (by kernel_rfl)) ?_
  try go_wp2
  refine bodyPost_ret (results_cell_row rfl _ _ m5 48 #[.int .i64 (wrap64 (Int.tdiv a0 b6)), .int .i64 (wrap64 (Int.tdiv a1 b6))] (0, 0) _ rfl (by (with_reducible repeat (first | refine blk_drewN ?_ _ | refine blk_drew ?_ | refine blk_alloc ?_ _)); refine blk_put (cs := #[.int .i64 (wrap64 (Int.tdiv a0 b6)), .int .i64 0]) ?_ 1 _ rfl; (with_reducible repeat (first | refine blk_drewN ?_ _ | refine blk_drew ?_ | refine blk_alloc ?_ _)); refine blk_put (cs := #[.int .i64 0, .int .i64 0]) ?_ 0 _ rfl; (with_reducible repeat (first | refine blk_drewN ?_ _ | refine blk_drew ?_ | refine blk_alloc ?_ _)); exact d0.out) Try.underlying48 rfl (by kernel_rfl)) rfl ?_
  exact ⟨re_, by repeat (first | (with_reducible first | exact HB.out | apply below_alloc | apply pw_below_drewN | apply below_drew1 | refine below_set ?_ A6.out) | exact HB.out)⟩

/-! ### impl_between: function 79 -/
def impl_between.f (a0 : Int) (a1 : Int) (a2 : Int) (a3 : Int) (a4 : Int) : Option (Int × Int) := some (wrap64 ((wrap64 (a2 * (wrap64 (a1 - a0)))) + (wrap64 ((wrap64 (a3 - a2)) * (wrap64 (a4 - a0))))), wrap64 (a1 - a0))
set_option maxHeartbeats 8000000 in
set_option maxRecDepth 100000 in
theorem impl_between.calls (a0 : Int) (a1 : Int) (a2 : Int) (a3 : Int) (a4 : Int) (r1 : Int) (r2 : Int) (w : World) (h : impl_between.f a0 a1 a2 a3 a4 = some (r1, r2)) :
  Calls Try.prog 79 #[.int .i64 a0, .int .i64 a1, .int .i64 a2, .int .i64 a3, .int .i64 a4] w fun e w' => e = .returned (.tuple #[.int .i64 r1, .int .i64 r2]) ∧ Drawn0 w w' := by
 have H : (some (wrap64 ((wrap64 (a2 * (wrap64 (a1 - a0)))) + (wrap64 ((wrap64 (a3 - a2)) * (wrap64 (a4 - a0))))), wrap64 (a1 - a0))) = some (r1, r2) := h
 clear h
 simp only [Option.some.injEq, Prod.mk.injEq] at H
 obtain ⟨rfl, rfl⟩ := H
 go_enter Try.func79, Try.ntmps79
 go_wp2
 go_ret2
 exact ⟨by first | rfl | (simp; done) | (simp [*]; done), by repeat (first | exact Drawn0.refl _ | apply Drawn0.step)⟩

/-! ### impl_ascends: function 84 -/
def impl_ascends.l0 : Nat → List Int → Int → Int → List Int → Int → Int → Option (Bool)
 | 0, _, _, _, _, _, _ => none
 | k + 1, x0, x1, x2, x9, H0, m6 => if m6 < H0 then (if 0 ≤ m6 then (if m6 < (x9.length : Int) then ((impl_in.f (rd x9 m6) x1 x2).bind fun q4 => (if q4 = true then (if m6 > 0 then (if 0 ≤ (wrap64 (m6 - 1)) then (if (wrap64 (m6 - 1)) < (x0.length : Int) then (if (rd x0 (wrap64 (m6 - 1))) ≥ (rd x9 m6) then (some false) else (impl_ascends.l0 k x0 x1 x2 x9 H0 (wrap64 (m6 + 1)))) else (none)) else (none)) else (impl_ascends.l0 k x0 x1 x2 x9 H0 (wrap64 (m6 + 1)))) else (some false))) else (none)) else (none)) else (some true)
def impl_ascends.f (k : Nat) (l0 : List Int) (a1 : Int) (a2 : Int) : Option (Bool) := impl_ascends.l0 k l0 a1 a2 l0 (l0.length : Int) 0
theorem impl_ascends.mono_l : ∀ k, (∀ y0 y1 y2 y3 y4 y5, LeO (impl_ascends.l0 k y0 y1 y2 y3 y4 y5) (impl_ascends.l0 (k + 1) y0 y1 y2 y3 y4 y5))
 | 0 => fun _ _ _ _ _ _ r h => by simp [impl_ascends.l0] at h
 | k + 1 => by
  have d3 := impl_ascends.mono_l k
  ·intro y0 y1 y2 y3 y4 y5
   unfold impl_ascends.l0
   repeat' first
   | (with_reducible exact d3 _ _ _ _ _ _)
   | (with_reducible exact LeO.refl _)
   | (with_reducible exact LeO.none _)
   | (with_reducible refine LeO.ite ?_ ?_)
   | (with_reducible refine LeO.bind ?_ (fun _ => ?_))
   | exact d3 _ _ _ _ _ _
   | exact LeO.none _
   | refine LeO.ite ?_ ?_
   | refine LeO.bind ?_ (fun _ => ?_)
theorem impl_ascends.mono : ∀ a0 a1 a2 k, LeO (impl_ascends.f k a0 a1 a2) (impl_ascends.f (k + 1) a0 a1 a2) := by
 intro a0 a1 a2 k
 have d3 := impl_ascends.mono_l k
 unfold impl_ascends.f
 repeat' first
   | (with_reducible exact d3 _ _ _ _ _ _)
   | (with_reducible exact LeO.refl _)
   | (with_reducible exact LeO.none _)
   | (with_reducible refine LeO.ite ?_ ?_)
   | (with_reducible refine LeO.bind ?_ (fun _ => ?_))
   | exact d3 _ _ _ _ _ _
   | exact LeO.none _
   | refine LeO.ite ?_ ?_
   | refine LeO.bind ?_ (fun _ => ?_)
set_option maxHeartbeats 8000000 in
set_option maxRecDepth 100000 in
theorem impl_ascends.calls (k : Nat) (A0 : Option Addr) (c0 : Nat) (l0 : List Int) (a1 : Int) (a2 : Int) (r : Bool) (w : World) (hr0 : Kd.C (Kd.int .i64) w A0 l0.length l0) (hc0 : l0.length ≤ c0) (h : impl_ascends.f k l0 a1 a2 = some r) :
  Calls Try.prog 84 #[.slice A0 l0.length c0, .int .i64 a1, .int .i64 a2] w fun e w' => e = .returned (.bool r) ∧ Drawn0 w w' := by
 have l3 := mk_ hr0; have F5 := mk_ hc0; clear hr0 hc0
 have H : (impl_ascends.l0 k l0 a1 a2 l0 (l0.length : Int) 0) = some r := h
 clear h
 have H' := mk_ H
 clear H
 go_enter Try.func84, Try.ntmps84
 go_wp2
 go_loopg [11] k (fun kq v11 w' => ∃ (a5 : Int), v11 = .int .i64 a5 ∧ Aside0 (impl_ascends.l0 kq l0 a1 a2 l0 (l0.length : Int) a5 = some r) ∧ Aside0 (kq ≤ k) ∧ Drawn0 w w')
 case atStart => exact ⟨(0), rf_, H', ⟨Nat.le_refl _⟩, by repeat (first | exact Drawn0.refl _ | apply Drawn0.step)⟩
 case round =>
  clear H'
  obtain ⟨a5, rfl, HA, j0, ⟨m1, rfl⟩⟩ := hrel
  cases gk with
  | zero => exact absurd HA.out (by simp [impl_ascends.l0])
  | succ k1 =>
   have H := HA.out; clear HA
   simp only [impl_ascends.l0] at H
   by_cases c4 : a5 < (l0.length : Int)
   ·rw [if_pos c4] at H; have n2 : decide (a5 < (l0.length : Int)) = true := decide_eq_true c4; clear c4; by_cases c5 : 0 ≤ a5
    ·rw [if_pos c5] at H; have G9 : decide (0 ≤ a5) = true := decide_eq_true c5; clear c5; by_cases c6 : a5 < (l0.length : Int)
     ·rw [if_pos c6] at H; have m2 : decide (a5 < (l0.length : Int)) = true := decide_eq_true c6; clear c6; replace H := Option.bind_eq_some_iff.mp H; obtain ⟨q4, I4, H⟩ := H; (try dsimp only at H); have A7 := mk_ I4; clear I4; by_cases c8 : q4 = true
      ·subst c8; rw [if_pos rfl] at H
       by_cases c9 : a5 > 0
       ·rw [if_pos c9] at H; have s3 : decide (0 < a5) = true := decide_eq_true c9; clear c9
        obtain ⟨b9, h8⟩ : ∃ j_ : Int, (wrap64 (a5 - 1)) = j_ := ⟨_, rfl⟩
        replace H : (if 0 ≤ (b9) then (if (b9) < (l0.length : Int) then (if (rd l0 (b9)) ≥ (rd l0 a5) then (some false) else (impl_ascends.l0 k1 l0 a1 a2 l0 (l0.length : Int) (wrap64 (a5 + 1)))) else (none)) else (none)) = some r := by first | (rw [h8] at H; exact H) | (simp only [h8] at H ⊢; exact H)
        (try rw [h8] at A7)
        have hji10w : (IntKind.i64.wrap (a5 - 1)) = b9 := (i64_w _).trans h8
        by_cases F3 : 0 ≤ (b9)
        ·rw [if_pos F3] at H; have I5 : decide (0 ≤ (b9)) = true := decide_eq_true F3; clear F3; by_cases F4 : (b9) < (l0.length : Int)
         ·rw [if_pos F4] at H; have I6 : decide ((b9) < (l0.length : Int)) = true := decide_eq_true F4; clear F4; by_cases q6 : (rd l0 (b9)) ≥ (rd l0 a5)
          ·rw [if_pos q6] at H; have A9 : decide ((rd l0 a5) ≤ (rd l0 (b9))) = true := decide_eq_true q6; clear q6; obtain rfl := Option.some.inj H
           have d1 : 0 ≤ (a5 : Int) := od_
           have d2 : a5 < (l0.length : Int) := od_
           obtain ⟨h9, j6, h2⟩ := Kd.at_int l3.out a5 d1 d2; cases j6; replace d1 := eq_true d1; replace d2 := eq_true d2
           go_wp2_with (first | ((with_reducible refine gc_ 76 rfl ?_); refine gl_ (some 19) rfl Try.func76 #[.int .i64 (rd l0 a5), .int .i64 a1, .int .i64 a2] ?_; (with_reducible refine (impl_in.calls (rd l0 a5) a1 a2 true _ A7.out).mono ?_); rintro e w' ⟨rfl, ⟨nd, rfl⟩⟩; refine ⟨_, rfl, ?_⟩; have j7 : 0 ≤ ((b9) : Int) := od_; have j8 : (b9) < (l0.length : Int) := od_; obtain ⟨m7, q5, n5⟩ := Kd.at_int l3.out (b9) j7 j8; obtain rfl : h9 = m7 := (by injection q5); replace j7 := eq_true j7; replace j8 := eq_true j8))
           go_ret
           exact ⟨by first | rfl | (simp; done) | (simp only [← h8] <;> (first | rfl | simp)) | (simp [*]; done), by repeat (first | exact Drawn0.refl _ | apply Drawn0.step)⟩
          ·rw [if_neg q6] at H; have A9 : decide ((rd l0 a5) ≤ (rd l0 (b9))) = false := decide_eq_false q6; clear q6
           have H' := mk_ H
           clear H
           have d1 : 0 ≤ (a5 : Int) := od_
           have d2 : a5 < (l0.length : Int) := od_
           obtain ⟨h9, j6, h2⟩ := Kd.at_int l3.out a5 d1 d2; cases j6; replace d1 := eq_true d1; replace d2 := eq_true d2
           go_wp2_with (first | ((with_reducible refine gc_ 76 rfl ?_); refine gl_ (some 19) rfl Try.func76 #[.int .i64 (rd l0 a5), .int .i64 a1, .int .i64 a2] ?_; (with_reducible refine (impl_in.calls (rd l0 a5) a1 a2 true _ A7.out).mono ?_); rintro e w' ⟨rfl, ⟨nd, rfl⟩⟩; refine ⟨_, rfl, ?_⟩; have j7 : 0 ≤ ((b9) : Int) := od_; have j8 : (b9) < (l0.length : Int) := od_; obtain ⟨m7, q5, n5⟩ := Kd.at_int l3.out (b9) j7 j8; obtain rfl : h9 = m7 := (by injection q5); replace j7 := eq_true j7; replace j8 := eq_true j8))
           go_roundg k1
           case measure => have := j0.out; omega
           case rel => exact ⟨(wrap64 (a5 + 1)), rf_, H', ⟨by have := j0.out; omega⟩, by repeat (first | exact Drawn0.refl _ | apply Drawn0.step)⟩
         ·rw [if_neg F4] at H
          exact absurd H (by simp)
        ·rw [if_neg F3] at H
         exact absurd H (by simp)
       ·rw [if_neg c9] at H; have s3 : decide (0 < a5) = false := decide_eq_false c9; clear c9
        have H' := mk_ H
        clear H
        have d1 : 0 ≤ (a5 : Int) := od_
        have d2 : a5 < (l0.length : Int) := od_
        obtain ⟨h9, j6, h2⟩ := Kd.at_int l3.out a5 d1 d2; cases j6; replace d1 := eq_true d1; replace d2 := eq_true d2
        go_wp2_with (first | ((with_reducible refine gc_ 76 rfl ?_); refine gl_ (some 19) rfl Try.func76 #[.int .i64 (rd l0 a5), .int .i64 a1, .int .i64 a2] ?_; (with_reducible refine (impl_in.calls (rd l0 a5) a1 a2 true _ A7.out).mono ?_); rintro e w' ⟨rfl, ⟨nd, rfl⟩⟩; refine ⟨_, rfl, ?_⟩))
        go_roundg k1
        case measure => have := j0.out; omega
        case rel => exact ⟨(wrap64 (a5 + 1)), rf_, H', ⟨by have := j0.out; omega⟩, by repeat (first | exact Drawn0.refl _ | apply Drawn0.step)⟩
      ·replace c8 := Bool.eq_false_iff.mpr c8; subst c8; rw [if_neg (show ¬ (false = true) by decide)] at H; obtain rfl := Option.some.inj H
       have d1 : 0 ≤ (a5 : Int) := od_
       have d2 : a5 < (l0.length : Int) := od_
       obtain ⟨h9, j6, h2⟩ := Kd.at_int l3.out a5 d1 d2; cases j6; replace d1 := eq_true d1; replace d2 := eq_true d2
       go_wp2_with (first | ((with_reducible refine gc_ 76 rfl ?_); refine gl_ (some 19) rfl Try.func76 #[.int .i64 (rd l0 a5), .int .i64 a1, .int .i64 a2] ?_; (with_reducible refine (impl_in.calls (rd l0 a5) a1 a2 false _ A7.out).mono ?_); rintro e w' ⟨rfl, ⟨nd, rfl⟩⟩; refine ⟨_, rfl, ?_⟩))
       go_ret
       exact ⟨by first | rfl | (simp; done) | (simp [*]; done), by repeat (first | exact Drawn0.refl _ | apply Drawn0.step)⟩
     ·rw [if_neg c6] at H
      exact absurd H (by simp)
    ·rw [if_neg c5] at H
     exact absurd H (by simp)
   ·rw [if_neg c4] at H; have n2 : decide (a5 < (l0.length : Int)) = false := decide_eq_false c4; clear c4; obtain rfl := Option.some.inj H; go_wp2; go_ret
    exact ⟨by first | rfl | (simp; done) | (simp [*]; done), by repeat (first | exact Drawn0.refl _ | apply Drawn0.step)⟩

end Go.Proofs.Ytnphbpkpjinddaa.QFnExactAtGrid
-- squeezed
