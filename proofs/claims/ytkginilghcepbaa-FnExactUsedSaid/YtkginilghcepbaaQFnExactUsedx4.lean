/- Lean functions that tell what the Go functions used by one law answer, and for each a proof that the Go code comes to just these answers; no condition. Printed by this session's own program over the kit's printer. -/
import Derived.Test.YtkginilghcepbaaWSq
import Derived.Test.YtkginilghcepbaaQFnExactUsedx0
import Derived.Test.YtkginilghcepbaaQFnExactUsedx3
namespace Go.Proofs.Ytkginilghcepbaa.QFnExactUsed
open Go.RowKit Go.Proofs.YtkginilghcepbaaW.PrintWords Go.Proofs.YtkginilghcepbaaW.PrintLast Go.Proofs.YtkginilghcepbaaW.PrintMore
attribute [local go_sem] max2_int min2_int max_two min_two max_three min_three max_four min_four   -- for this text's walks alone
attribute [local go_sem high] go_eql go_neq go_lss go_leq go_gtr go_geq go_store   -- for this text's walks alone
set_option linter.unusedVariables false
set_option linter.unusedSimpArgs false

/-! ### laws_toStep6S: function 13 -/
def laws_toStep6S.l0 : Nat → List (S104) → List (S101) → Int → Option ((List (S101)))
 | 0, _, _, _ => none
 | k + 1, x0, x3, x4 => if x4 < (x0.length : Int) then (if 0 ≤ x4 then ((laws_toStep6.f ((rd_T104 x0 x4).f0) ((rd_T104 x0 x4).f1)).bind fun d1 => (if x4 < (x3.length : Int) then (laws_toStep6S.l0 k x0 (x3.set (x4 : Int).toNat (⟨d1.1, d1.2⟩ : S101)) (wrap64 (x4 + 1))) else (none))) else (none)) else (some x3)
def laws_toStep6S.f (k : Nat) (l0 : List (S104)) : Option ((List (S101))) := if 0 ≤ (l0.length : Int) then (if ((l0.length : Int) : Int).toNat ≤ 17592186044416 then (laws_toStep6S.l0 k l0 (List.replicate ((l0.length : Int) : Int).toNat z101) 0) else (none)) else (none)
theorem laws_toStep6S.mono_l : ∀ k, (∀ y0 y1 y2, LeO (laws_toStep6S.l0 k y0 y1 y2) (laws_toStep6S.l0 (k + 1) y0 y1 y2))
 | 0 => fun _ _ _ r h => by simp [laws_toStep6S.l0] at h
 | k + 1 => by
  have b7 := laws_toStep6S.mono_l k
  ·intro y0 y1 y2
   unfold laws_toStep6S.l0
   repeat' first
   | (with_reducible exact b7 _ _ _)
   | (with_reducible exact LeO.refl _)
   | (with_reducible exact LeO.none _)
   | (with_reducible refine LeO.ite ?_ ?_)
   | (with_reducible refine LeO.bind ?_ (fun _ => ?_))
   | exact b7 _ _ _
   | exact LeO.none _
   | refine LeO.ite ?_ ?_
   | refine LeO.bind ?_ (fun _ => ?_)
theorem laws_toStep6S.mono : ∀ a0 k, LeO (laws_toStep6S.f k a0) (laws_toStep6S.f (k + 1) a0) := by
 intro a0 k
 have b7 := laws_toStep6S.mono_l k
 unfold laws_toStep6S.f
 repeat' first
   | (with_reducible exact b7 _ _ _)
   | (with_reducible exact LeO.refl _)
   | (with_reducible exact LeO.none _)
   | (with_reducible refine LeO.ite ?_ ?_)
   | (with_reducible refine LeO.bind ?_ (fun _ => ?_))
   | exact b7 _ _ _
   | exact LeO.none _
   | refine LeO.ite ?_ ?_
   | refine LeO.bind ?_ (fun _ => ?_)
set_option maxHeartbeats 8000000 in
set_option maxRecDepth 100000 in
theorem laws_toStep6S.calls (k : Nat) (A0 : Option Addr) (c0 : Nat) (l0 : List (S104)) (r : List (S101)) (w : World) (hr0 : Kd.C k104 w A0 l0.length l0) (hc0 : l0.length ≤ c0) (h : laws_toStep6S.f k l0 = some r) :
  Calls Try.prog 13 #[.slice A0 l0.length c0] w fun e w' => ∃ v0_ : Value, e = .returned (v0_) ∧ Kd.R k101 101 w' w.heap.size (fun _ => True) v0_ r ∧ Below w.heap.size w w' := by
 have m0 := Try.underlying104
 have m1 := Try.underlying101
 have j4 := mk_ hr0; have m9 := mk_ hc0; clear hr0 hc0; have HB := mk_ (Below.refl w.heap.size w)
 have H : (if 0 ≤ (l0.length : Int) then (if ((l0.length : Int) : Int).toNat ≤ 17592186044416 then (laws_toStep6S.l0 k l0 (List.replicate ((l0.length : Int) : Int).toNat z101) 0) else (none)) else (none)) = some r := h
 clear h; by_cases c2 : 0 ≤ (l0.length : Int)
 ·rw [if_pos c2] at H
  have d5 := eq_true c2
  have d6 : decide (0 ≤ (l0.length : Int)) = true := decide_eq_true c2; clear c2; by_cases c3 : ((l0.length : Int) : Int).toNat ≤ 17592186044416
  ·rw [if_pos c3] at H
   have j5 := eq_true c3
   have j6 : decide (((l0.length : Int) : Int).toNat ≤ 17592186044416) = true := decide_eq_true c3; clear c3
   obtain ⟨g8, b0⟩ : ∃ y_ : List (S101), y_ = (List.replicate ((l0.length : Int) : Int).toNat z101) := ⟨_, rfl⟩
   replace H : (laws_toStep6S.l0 k l0 g8 0) = some r := by first | (rw [b0]; with_reducible exact H) | (have H2_ := (Option.bind_some _ _).symm.trans H; rw [b0]; with_reducible exact H2_) | (have H2_ := (Option.bind_some _ _).symm.trans H; with_reducible exact H2_) | with_reducible exact H | (rw [b0]; exact H) | exact H
   have d2 := mk_ b0; clear b0
   have H' := mk_ H
   clear H
   go_enter Try.func13, Try.ntmps13
   go_wp2_with (first | ((with_reducible refine gd_ 7 rfl ?_); refine Kd.R_make k101 _ 101 rfl (N := 7) rfl 29 _ _ rfl (l0.length : Int) rfl rfl Try.underlying29 (.agg #[(.int .i64 0), (.int .i64 0)]) 16 info101 rfl (by decide) (by omega) z101 (ok := fun _ => True) (okp := fun _ => True) (k101_mkM _ _ _ z101 ) (fun _ hk => hk) trivial (od_) (Nat.le_trans (Nat.mul_le_mul_right _ (od_ : (l0.length : Int).toNat ≤ 17592186044416)) (by omega)) (Below.refl _ _) (Nat.le_refl _) ?_; intro v129 w4 b8 hb hg_ hnew_; clear hg_ hnew_; (first | rw [← d2.out] at b8 | (simp only [Int.reduceToNat] at b8; rw [← d2.out] at b8)); have g9 := mk_ (Kd.R_lower b8 (below_size (by exact HB.out))); replace HB := bp_ HB hb; clear hb b8))
   go_loopg [4] k (fun kq v4 w' => ∃ (a4 : List (S101)) (a3 : Int), v4 = .int .i64 a3 ∧ Aside0 (laws_toStep6S.l0 kq l0 a4 a3 = some r) ∧ Aside0 (kq ≤ k) ∧ Aside0 (Kd.R k101 101 w' w.heap.size (fun _ => True) v129 a4) ∧ Aside0 (Below w.heap.size w w'))
   case atStart => exact ⟨(g8), (0), rf_, H', ⟨Nat.le_refl _⟩, kw_ g9, ⟨hw_ HB⟩⟩
   case round =>
    clear H'; (try clear c2); (try clear d5); (try clear d6); (try clear c3)
    obtain ⟨a4, a3, rfl, HA, h2, a5, HB⟩ := hrel
    cases gk with
    | zero => exact absurd HA.out (by simp [laws_toStep6S.l0])
    | succ k1 =>
     have H := HA.out; clear HA
     simp only [laws_toStep6S.l0] at H
     by_cases c6 : a3 < (l0.length : Int)
     ·rw [if_pos c6] at H; have d7 : decide (a3 < (l0.length : Int)) = true := decide_eq_true c6; clear c6; by_cases c7 : 0 ≤ a3
      ·rw [if_pos c7] at H; have j7 : decide (0 ≤ a3) = true := decide_eq_true c7; clear c7; replace H := Option.bind_eq_some_iff.mp H; obtain ⟨⟨b5, b6⟩, m2, H⟩ := H; (try dsimp only at H); have A8 := mk_ m2; clear m2; by_cases c9 : a3 < (a4.length : Int)
       ·rw [if_pos c9] at H; have n0 : decide (a3 < (a4.length : Int)) = true := decide_eq_true c9; clear c9
        obtain ⟨d8, b1⟩ : ∃ y_ : List (S101), y_ = (a4.set (a3 : Int).toNat (⟨b5, b6⟩ : S101)) := ⟨_, rfl⟩
        replace H : (laws_toStep6S.l0 k1 l0 d8 (wrap64 (a3 + 1))) = some r := by first | (rw [b1]; with_reducible exact H) | (have H2_ := (Option.bind_some _ _).symm.trans H; rw [b1]; with_reducible exact H2_) | (have H2_ := (Option.bind_some _ _).symm.trans H; with_reducible exact H2_) | with_reducible exact H | (rw [b1]; exact H) | exact H
        have h3 := mk_ b1; clear b1
        have H' := mk_ H
        clear H
        have d9 : 0 ≤ (a3 : Int) := od_
        have g0 : a3 < (l0.length : Int) := od_
        obtain ⟨m3, j8, a6, a7⟩ := at_T104 j4.out a3 d9 g0; cases j8
        replace a6 := (HB.out.cell (World.block_lt_of_cell? w _ a6)).trans a6
        replace a7 := (HB.out.cell (World.block_lt_of_cell? w _ a7)).trans a7
        replace d9 := eq_true d9; replace g0 := eq_true g0
        go_wp2_with (first | ((with_reducible refine gc_ 53 rfl ?_); refine gl_ (some 20) rfl Try.func53 #[.agg #[.int .i64 ((rd_T104 l0 a3).f0), .int .i64 ((rd_T104 l0 a3).f1)]] ?_; (with_reducible refine (laws_toStep6.calls ((rd_T104 l0 a3).f0) ((rd_T104 l0 a3).f1) b5 b6 _ A8.out).mono ?_); rintro e b9 ⟨rfl, hb⟩; refine ⟨_, rfl, ?_⟩; replace a5 := rb_ a5 hb; replace HB := bp_ HB hb; (try clear hb); (try clear n6); (try clear hk); (try clear hi); have j9 : 0 ≤ (a3 : Int) := od_; have l1 : (a3 : Int) < ((a4.length : Int) : Int) := od_; obtain ⟨a8, h4, h5, h6, gl10, cl10, HG10⟩ := Kd.R_form a5.out (by omega); (first | cases h5 | (injection h5 with ea_ en_ ec_; (first | subst ea_ | (injection ea_ with ea_; subst ea_)); subst ec_; clear en_)); have GB10 := mk_ h6; have n1 := mk_ HG10; clear h6 gl10 HG10; obtain ⟨n2, h7, h8, c1, c5⟩ := Kd.R_elem a5.out z101 (a3 : Int) j9 l1; obtain rfl := k101_openM h8; have l2 : b9.cell? ⟨a8, (a3 : Int).toNat * 2, none⟩ = some (.int .i64 ((rd_T101 a4 a3).f0)) := c1 0 _ rfl; have l3 : b9.cell? ⟨a8, (a3 : Int).toNat * 2 + 1, none⟩ = some (.int .i64 ((rd_T101 a4 a3).f1)) := c1 1 _ rfl; have l4 : b9.frozen? ⟨a8, (a3 : Int).toNat * 2, none⟩ = false := c5 0; have l5 : b9.frozen? ⟨a8, (a3 : Int).toNat * 2 + 1, none⟩ = false := c5 1; clear h7 c1 c5; (try clear h8); replace j9 := eq_true j9; replace l1 := eq_true l1; have h9 := mk_ (show Kd.R k101 101 b9 w.heap.size (fun _ => True) (.slice (some ⟨a8, 0, none⟩) a4.length h4) a4 from (by exact a5.out)); obtain ⟨n3, d3, j0, b4, d0⟩ := Kd.R_elem h9.out z101 (a3 : Int) (od_) (by have h_ : (a3 : Int) < ((a4.length : Int) : Int) := od_; first | exact h_ | (have e_ := (Kd.R_reads' a5.out).1; omega) | simpa using h_); obtain rfl := k101_openM j0; have HP12 := Kd.R_seg h9.out (a3 : Int) (od_) (by have h_ : (a3 : Int) < ((a4.length : Int) : Int) := od_; first | exact h_ | (have e_ := (Kd.R_reads' a5.out).1; omega) | simpa using h_) (seg := [.int .i64 b5, .int .i64 b6]) (j := 0) d3 b4 (show 2 ≤ 2 from by decide) (x' := (⟨b5, b6⟩ : S101)) (k101_mkM _ _ _ (⟨b5, b6⟩ : S101) ) (fun _ hk => hk); have g1 := b4 0 _ rfl; (try simp only [show (k101).sz = 2 from rfl, Nat.mul_one, Nat.add_zero] at g1); have g2 := d0 0; (try simp only [show (k101).sz = 2 from rfl, Nat.mul_one, Nat.add_zero] at g2); have g3 := b4 1 _ rfl; (try simp only [show (k101).sz = 2 from rfl, Nat.mul_one, Nat.add_zero] at g3); have g4 := d0 1; (try simp only [show (k101).sz = 2 from rfl, Nat.mul_one, Nat.add_zero] at g4); clear d3 b4 d0; (try clear j0)) | ((with_reducible refine gate_store (t := 101) (p := 21) rfl ?_); refine store_event (t := 101) (p := 21) (v := ?vo_w13) (w1 := ((b9.setCell ⟨a8, (a3 : Int).toNat * 2, none⟩ (.int .i64 b5)).setCell ⟨a8, (a3 : Int).toNat * 2 + 1, none⟩ (.int .i64 b6))) ?hg ?ho ?hn ?hr ?_; (case ho => rfl); (case hg => rfl); (case hn => rfl); (case hr => exact hr_); intro l6 hw; have hg : b9.grownBy l6 (some a8) := (by rw [hw]; exact HP12.2); have hp_ : Kd.R k101 101 l6 w.heap.size (fun _ => True) (.slice (some ⟨a8, 0, none⟩) a4.length h4) d8 := (by rw [hw, h3.out]; exact HP12.1); clear HP12; replace a5 := mk_ (hp_); replace HB := mk_ ((by rw [hw]; exact below_set (below_set (HB.out) GB10.out) GB10.out : Below w.heap.size w l6)); clear hg hw hp_))
        go_roundg k1
        case measure => have := h2.out; omega
        case rel => exact ⟨(d8), (wrap64 (a3 + 1)), rf_, H', ⟨by have := h2.out; omega⟩, kw_ a5, ⟨hw_ HB⟩⟩
       ·rw [if_neg c9] at H
        exact absurd H (by simp)
      ·rw [if_neg c7] at H
       exact absurd H (by simp)
     ·rw [if_neg c6] at H; have d7 : decide (a3 < (l0.length : Int)) = false := decide_eq_false c6; clear c6; obtain rfl := Option.some.inj H; go_wp2; go_ret
      exact ⟨_, re_, by (with_reducible repeat (first | apply Kd.R_alloc | apply Kd.R_drewN | apply Kd.R_drew)); exact a5.out, hw_ HB⟩
  ·rw [if_neg c3] at H
   exact absurd H (by simp)
 ·rw [if_neg c2] at H
  exact absurd H (by simp)

/-! ### laws_toIntS: function 14 -/
def laws_toIntS.l0 : Nat → List Int → List Int → Int → Option (List Int)
 | 0, _, _, _ => none
 | k + 1, x0, x3, x4 => if x4 < (x0.length : Int) then (if 0 ≤ x4 then (if x4 < (x3.length : Int) then (laws_toIntS.l0 k x0 (x3.set (x4 : Int).toNat (rd x0 x4)) (wrap64 (x4 + 1))) else (none)) else (none)) else (some x3)
def laws_toIntS.f (k : Nat) (l0 : List Int) : Option (List Int) := if 0 ≤ (l0.length : Int) then (if ((l0.length : Int) : Int).toNat ≤ 35184372088832 then (laws_toIntS.l0 k l0 (List.replicate ((l0.length : Int) : Int).toNat 0) 0) else (none)) else (none)
theorem laws_toIntS.mono_l : ∀ k, (∀ y0 y1 y2, LeO (laws_toIntS.l0 k y0 y1 y2) (laws_toIntS.l0 (k + 1) y0 y1 y2))
 | 0 => fun _ _ _ r h => by simp [laws_toIntS.l0] at h
 | k + 1 => by
  have b7 := laws_toIntS.mono_l k
  ·intro y0 y1 y2
   unfold laws_toIntS.l0
   repeat' first
   | (with_reducible exact b7 _ _ _)
   | (with_reducible exact LeO.refl _)
   | (with_reducible exact LeO.none _)
   | (with_reducible refine LeO.ite ?_ ?_)
   | (with_reducible refine LeO.bind ?_ (fun _ => ?_))
   | exact b7 _ _ _
   | exact LeO.none _
   | refine LeO.ite ?_ ?_
   | refine LeO.bind ?_ (fun _ => ?_)
theorem laws_toIntS.mono : ∀ a0 k, LeO (laws_toIntS.f k a0) (laws_toIntS.f (k + 1) a0) := by
 intro a0 k
 have b7 := laws_toIntS.mono_l k
 unfold laws_toIntS.f
 repeat' first
   | (with_reducible exact b7 _ _ _)
   | (with_reducible exact LeO.refl _)
   | (with_reducible exact LeO.none _)
   | (with_reducible refine LeO.ite ?_ ?_)
   | (with_reducible refine LeO.bind ?_ (fun _ => ?_))
   | exact b7 _ _ _
   | exact LeO.none _
   | refine LeO.ite ?_ ?_
   | refine LeO.bind ?_ (fun _ => ?_)
set_option maxHeartbeats 8000000 in
set_option maxRecDepth 100000 in
theorem laws_toIntS.calls (k : Nat) (A0 : Option Addr) (c0 : Nat) (l0 : List Int) (r : List Int) (w : World) (hr0 : Kd.C (Kd.int .i64) w A0 l0.length l0) (hc0 : l0.length ≤ c0) (h : laws_toIntS.f k l0 = some r) :
  Calls Try.prog 14 #[.slice A0 l0.length c0] w fun e w' => ∃ v0_ : Value, e = .returned (v0_) ∧ Kd.R (Kd.int .i64) 3 w' w.heap.size (fun _ => True) v0_ r ∧ Below w.heap.size w w' := by
 have j4 := mk_ hr0; have m9 := mk_ hc0; clear hr0 hc0; have HB := mk_ (Below.refl w.heap.size w)
 have H : (if 0 ≤ (l0.length : Int) then (if ((l0.length : Int) : Int).toNat ≤ 35184372088832 then (laws_toIntS.l0 k l0 (List.replicate ((l0.length : Int) : Int).toNat 0) 0) else (none)) else (none)) = some r := h
 clear h; by_cases c2 : 0 ≤ (l0.length : Int)
 ·rw [if_pos c2] at H
  have d5 := eq_true c2
  have d6 : decide (0 ≤ (l0.length : Int)) = true := decide_eq_true c2; clear c2; by_cases c3 : ((l0.length : Int) : Int).toNat ≤ 35184372088832
  ·rw [if_pos c3] at H
   have j5 := eq_true c3
   have j6 : decide (((l0.length : Int) : Int).toNat ≤ 35184372088832) = true := decide_eq_true c3; clear c3
   obtain ⟨j1, b2⟩ : ∃ y_ : List Int, y_ = (List.replicate ((l0.length : Int) : Int).toNat 0) := ⟨_, rfl⟩
   replace H : (laws_toIntS.l0 k l0 j1 0) = some r := by first | (rw [b2]; with_reducible exact H) | (have H2_ := (Option.bind_some _ _).symm.trans H; rw [b2]; with_reducible exact H2_) | (have H2_ := (Option.bind_some _ _).symm.trans H; with_reducible exact H2_) | with_reducible exact H | (rw [b2]; exact H) | exact H
   have d4 := mk_ b2; clear b2
   have H' := mk_ H
   clear H
   go_enter Try.func14, Try.ntmps14
   go_wp2_with (first | ((with_reducible refine gd_ 7 rfl ?_); refine Kd.R_make (Kd.int .i64) _ 3 rfl (N := 7) rfl 23 _ _ rfl (l0.length : Int) rfl rfl Try.underlying23 (.int .i64 0) 8 info3 rfl (by decide) (by omega) 0 (ok := fun _ => True) (okp := fun _ => True) rfl (fun _ hk => hk) trivial (od_) (Nat.le_trans (Nat.mul_le_mul_right _ (od_ : (l0.length : Int).toNat ≤ 35184372088832)) (by omega)) (Below.refl _ _) (Nat.le_refl _) ?_; intro v136 w4 b8 hb hg_ hnew_; clear hg_ hnew_; (first | rw [← d4.out] at b8 | (simp only [Int.reduceToNat] at b8; rw [← d4.out] at b8)); have j2 := mk_ (Kd.R_lower b8 (below_size (by exact HB.out))); replace HB := bp_ HB hb; clear hb b8))
   go_loopg [4] k (fun kq v4 w' => ∃ (a4 : List Int) (a3 : Int), v4 = .int .i64 a3 ∧ Aside0 (laws_toIntS.l0 kq l0 a4 a3 = some r) ∧ Aside0 (kq ≤ k) ∧ Aside0 (Kd.R (Kd.int .i64) 3 w' w.heap.size (fun _ => True) v136 a4) ∧ Aside0 (Below w.heap.size w w'))
   case atStart => exact ⟨(j1), (0), rf_, H', ⟨Nat.le_refl _⟩, kw_ j2, ⟨hw_ HB⟩⟩
   case round =>
    clear H'; (try clear c2); (try clear d5); (try clear d6); (try clear c3)
    obtain ⟨a4, a3, rfl, HA, h2, a5, HB⟩ := hrel
    cases gk with
    | zero => exact absurd HA.out (by simp [laws_toIntS.l0])
    | succ k1 =>
     have H := HA.out; clear HA
     simp only [laws_toIntS.l0] at H
     by_cases c6 : a3 < (l0.length : Int)
     ·rw [if_pos c6] at H; have d7 : decide (a3 < (l0.length : Int)) = true := decide_eq_true c6; clear c6; by_cases c7 : 0 ≤ a3
      ·rw [if_pos c7] at H; have j7 : decide (0 ≤ a3) = true := decide_eq_true c7; clear c7; by_cases c8 : a3 < (a4.length : Int)
       ·rw [if_pos c8] at H; have n4 : decide (a3 < (a4.length : Int)) = true := decide_eq_true c8; clear c8
        obtain ⟨g5, b3⟩ : ∃ y_ : List Int, y_ = (a4.set (a3 : Int).toNat (rd l0 a3)) := ⟨_, rfl⟩
        replace H : (laws_toIntS.l0 k1 l0 g5 (wrap64 (a3 + 1))) = some r := by first | (rw [b3]; with_reducible exact H) | (have H2_ := (Option.bind_some _ _).symm.trans H; rw [b3]; with_reducible exact H2_) | (have H2_ := (Option.bind_some _ _).symm.trans H; with_reducible exact H2_) | with_reducible exact H | (rw [b3]; exact H) | exact H
        have j3 := mk_ b3; clear b3
        have H' := mk_ H
        clear H
        have g6 : 0 ≤ (a3 : Int) := od_
        have g7 : a3 < (l0.length : Int) := od_
        obtain ⟨m4, l7, a9⟩ := Kd.at_int j4.out a3 g6 g7; cases l7
        replace a9 := (HB.out.cell (World.block_lt_of_cell? w _ a9)).trans a9
        replace g6 := eq_true g6; replace g7 := eq_true g7
        have p9 : 0 ≤ (a3 : Int) := od_
        have q9 : (a3 : Int) < ((a4.length : Int) : Int) := od_
        obtain ⟨l8, n5, m5, m6, gl9, cl9, HG9⟩ := Kd.R_form a5.out (by omega)
        (first | cases m5 | (injection m5 with ea_ en_ ec_; (first | subst ea_ | (injection ea_ with ea_; subst ea_)); subst ec_; clear en_))
        have GB9 := mk_ m6; have n7 := mk_ HG9; clear m6 gl9 HG9
        obtain ⟨m7, m8⟩ := Kd.R_celln 0 a5.out (a3 : Int) p9 q9
        replace p9 := eq_true p9; replace q9 := eq_true q9
        have HP10 := Kd.R_putg a5.out (a3 : Int) (rd l0 a3)
        go_wp2_with (first | ((with_reducible refine gate_store (t := 3) (p := 20) rfl ?_); refine store_event (t := 3) (p := 20) (v := ?vo_w11) (w1 := (wr.setCell ⟨l8, (a3 : Int).toNat, none⟩ (.int .i64 (rd l0 a3)))) ?hg ?ho ?hn ?hr ?_; (case ho => rfl); (case hg => rfl); (case hn => rfl); (case hr => exact hr_); intro b9 hw; have hg : wr.grownBy b9 (some l8) := (by rw [hw]; exact HP10.2); have hp_ : Kd.R (Kd.int .i64) 3 b9 w.heap.size (fun _ => True) (.slice (some ⟨l8, 0, none⟩) a4.length n5) g5 := (by rw [hw, j3.out]; exact HP10.1); clear HP10; replace a5 := mk_ (hp_); replace HB := mk_ ((by rw [hw]; exact below_set (HB.out) GB9.out : Below w.heap.size w b9)); clear hg hw hp_))
        go_roundg k1
        case measure => have := h2.out; omega
        case rel => exact ⟨(g5), (wrap64 (a3 + 1)), rf_, H', ⟨by have := h2.out; omega⟩, kw_ a5, ⟨hw_ HB⟩⟩
       ·rw [if_neg c8] at H
        exact absurd H (by simp)
      ·rw [if_neg c7] at H
       exact absurd H (by simp)
     ·rw [if_neg c6] at H; have d7 : decide (a3 < (l0.length : Int)) = false := decide_eq_false c6; clear c6; obtain rfl := Option.some.inj H; go_wp2; go_ret
      exact ⟨_, re_, by (with_reducible repeat (first | apply Kd.R_alloc | apply Kd.R_drewN | apply Kd.R_drew)); exact a5.out, hw_ HB⟩
  ·rw [if_neg c3] at H
   exact absurd H (by simp)
 ·rw [if_neg c2] at H
  exact absurd H (by simp)

/-! ### impl_in: function 65 -/
def impl_in.f (a0 : Int) (a1 : Int) (a2 : Int) : Option (Bool) := if a0 ≥ a1 then (some (decide (a0 ≤ a2))) else (some false)
set_option maxHeartbeats 8000000 in
set_option maxRecDepth 100000 in
theorem impl_in.calls (a0 : Int) (a1 : Int) (a2 : Int) (r : Bool) (w : World) (h : impl_in.f a0 a1 a2 = some r) :
  Calls Try.prog 65 #[.int .i64 a0, .int .i64 a1, .int .i64 a2] w fun e w' => e = .returned (.bool r) ∧ Drawn0 w w' := by
 have H : (if a0 ≥ a1 then (some (decide (a0 ≤ a2))) else (some false)) = some r := h
 clear h; by_cases c4 : a0 ≥ a1
 ·rw [if_pos c4] at H; have l9 : decide (a1 ≤ a0) = true := decide_eq_true c4; clear c4; obtain rfl := Option.some.inj H
  go_enter Try.func65, Try.ntmps65
  go_wp2; go_ret
  exact ⟨by first | rfl | (simp; done) | (simp [*]; done), by repeat (first | exact Drawn0.refl _ | apply Drawn0.step)⟩
 ·rw [if_neg c4] at H; have l9 : decide (a1 ≤ a0) = false := decide_eq_false c4; clear c4; obtain rfl := Option.some.inj H
  go_enter Try.func65, Try.ntmps65
  go_wp2; go_ret
  exact ⟨by first | rfl | (simp; done) | (simp [*]; done), by repeat (first | exact Drawn0.refl _ | apply Drawn0.step)⟩

end Go.Proofs.Ytkginilghcepbaa.QFnExactUsed
-- squeezed
