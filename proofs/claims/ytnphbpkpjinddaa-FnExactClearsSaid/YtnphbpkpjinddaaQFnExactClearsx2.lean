/- Lean functions that tell what the Go functions used by one law answer, and for each a proof that the Go code comes to just these answers; no condition. Printed by this session's own program over the kit's printer. -/
import Derived.Test.YtnphbpkpjinddaaWSq
import Derived.Test.YtnphbpkpjinddaaQFnExactClearsx0
import Derived.Test.YtnphbpkpjinddaaQFnExactClearsx1
namespace Go.Proofs.Ytnphbpkpjinddaa.QFnExactClears
open Go.RowKit Go.Proofs.YtnphbpkpjinddaaW.PrintWords Go.Proofs.YtnphbpkpjinddaaW.PrintLast Go.Proofs.YtnphbpkpjinddaaW.PrintMore
attribute [local go_sem] max2_int min2_int max_two min_two max_three min_three max_four min_four   -- for this text's walks alone
attribute [local go_sem high] go_eql go_neq go_lss go_leq go_gtr go_geq go_store   -- for this text's walks alone
set_option linter.unusedVariables false
set_option linter.unusedSimpArgs false

/-! ### laws_toPhaseS: function 54 -/
def laws_toPhaseS.l0 : Nat → List (S139) → List (S137) → Int → Option ((List (S137)))
 | 0, _, _, _ => none
 | k + 1, x0, x3, x4 => if x4 < (x0.length : Int) then (if 0 ≤ x4 then ((laws_toPhase.f ((rd_T139 x0 x4).f0) ((rd_T139 x0 x4).f1)).bind fun n0 => (if x4 < (x3.length : Int) then (laws_toPhaseS.l0 k x0 (x3.set (x4 : Int).toNat (⟨n0.1, n0.2⟩ : S137)) (wrap64 (x4 + 1))) else (none))) else (none)) else (some x3)
def laws_toPhaseS.f (k : Nat) (l0 : List (S139)) : Option ((List (S137))) := if 0 ≤ (l0.length : Int) then (if ((l0.length : Int) : Int).toNat ≤ 17592186044416 then (laws_toPhaseS.l0 k l0 (List.replicate ((l0.length : Int) : Int).toNat z137) 0) else (none)) else (none)
theorem laws_toPhaseS.mono_l : ∀ k, (∀ y0 y1 y2, LeO (laws_toPhaseS.l0 k y0 y1 y2) (laws_toPhaseS.l0 (k + 1) y0 y1 y2))
 | 0 => fun _ _ _ r h => by simp [laws_toPhaseS.l0] at h
 | k + 1 => by
  have b8 := laws_toPhaseS.mono_l k
  ·intro y0 y1 y2
   unfold laws_toPhaseS.l0
   repeat' first
   | (with_reducible exact b8 _ _ _)
   | (with_reducible exact LeO.refl _)
   | (with_reducible exact LeO.none _)
   | (with_reducible refine LeO.ite ?_ ?_)
   | (with_reducible refine LeO.bind ?_ (fun _ => ?_))
   | exact b8 _ _ _
   | exact LeO.none _
   | refine LeO.ite ?_ ?_
   | refine LeO.bind ?_ (fun _ => ?_)
theorem laws_toPhaseS.mono : ∀ a0 k, LeO (laws_toPhaseS.f k a0) (laws_toPhaseS.f (k + 1) a0) := by
 intro a0 k
 have b8 := laws_toPhaseS.mono_l k
 unfold laws_toPhaseS.f
 repeat' first
   | (with_reducible exact b8 _ _ _)
   | (with_reducible exact LeO.refl _)
   | (with_reducible exact LeO.none _)
   | (with_reducible refine LeO.ite ?_ ?_)
   | (with_reducible refine LeO.bind ?_ (fun _ => ?_))
   | exact b8 _ _ _
   | exact LeO.none _
   | refine LeO.ite ?_ ?_
   | refine LeO.bind ?_ (fun _ => ?_)
set_option maxHeartbeats 8000000 in
set_option maxRecDepth 100000 in
theorem laws_toPhaseS.calls (k : Nat) (A0 : Option Addr) (c0 : Nat) (l0 : List (S139)) (r : List (S137)) (w : World) (hr0 : Kd.C k139 w A0 l0.length l0) (hc0 : l0.length ≤ c0) (h : laws_toPhaseS.f k l0 = some r) :
  Calls Try.prog 54 #[.slice A0 l0.length c0] w fun e w' => ∃ v0_ : Value, e = .returned (v0_) ∧ Kd.R k137 137 w' w.heap.size (fun _ => True) v0_ r ∧ Below w.heap.size w w' := by
 have D8 := Try.underlying139
 have n1 := Try.underlying137
 have C2 := mk_ hr0; have F5 := mk_ hc0; clear hr0 hc0; have HB := mk_ (Below.refl w.heap.size w)
 have H : (if 0 ≤ (l0.length : Int) then (if ((l0.length : Int) : Int).toNat ≤ 17592186044416 then (laws_toPhaseS.l0 k l0 (List.replicate ((l0.length : Int) : Int).toNat z137) 0) else (none)) else (none)) = some r := h
 clear h; by_cases c2 : 0 ≤ (l0.length : Int)
 ·rw [if_pos c2] at H
  have n9 := eq_true c2
  have o0 : decide (0 ≤ (l0.length : Int)) = true := decide_eq_true c2; clear c2; by_cases c3 : ((l0.length : Int) : Int).toNat ≤ 17592186044416
  ·rw [if_pos c3] at H
   have C3 := eq_true c3
   have C4 : decide (((l0.length : Int) : Int).toNat ≤ 17592186044416) = true := decide_eq_true c3; clear c3
   obtain ⟨q4, g4⟩ : ∃ y_ : List (S137), y_ = (List.replicate ((l0.length : Int) : Int).toNat z137) := ⟨_, rfl⟩
   replace H : (laws_toPhaseS.l0 k l0 q4 0) = some r := by first | (rw [g4]; with_reducible exact H) | (have H2_ := (Option.bind_some _ _).symm.trans H; rw [g4]; with_reducible exact H2_) | (have H2_ := (Option.bind_some _ _).symm.trans H; with_reducible exact H2_) | with_reducible exact H | (rw [g4]; exact H) | exact H
   have n2 := mk_ g4; clear g4
   have H' := mk_ H
   clear H
   go_enter Try.func54, Try.ntmps54
   go_wp2_with (first | ((with_reducible refine gd_ 7 rfl ?_); refine Kd.R_make k137 _ 137 rfl (N := 7) rfl 91 _ _ rfl (l0.length : Int) rfl rfl Try.underlying91 (.agg #[(.int .i64 0), (.int .i64 0)]) 16 info137 rfl (by decide) (by omega) z137 (ok := fun _ => True) (okp := fun _ => True) (k137_mkM _ _ _ z137 ) (fun _ hk => hk) trivial (od_) (Nat.le_trans (Nat.mul_le_mul_right _ (od_ : (l0.length : Int).toNat ≤ 17592186044416)) (by omega)) (Below.refl _ _) (Nat.le_refl _) ?_; intro v122 w4 l6 hb hg_ hnew_; clear hg_ hnew_; (first | rw [← n2.out] at l6 | (simp only [Int.reduceToNat] at l6; rw [← n2.out] at l6)); have q5 := mk_ (Kd.R_lower l6 (below_size (by exact HB.out))); replace HB := bp_ HB hb; clear hb l6))
   go_loopg [4] k (fun kq v4 w' => ∃ (a6 : List (S137)) (a4 : Int), v4 = .int .i64 a4 ∧ Aside0 (laws_toPhaseS.l0 kq l0 a6 a4 = some r) ∧ Aside0 (kq ≤ k) ∧ Aside0 (Kd.R k137 137 w' w.heap.size (fun _ => True) v122 a6) ∧ Aside0 (Below w.heap.size w w'))
   case atStart => exact ⟨(q4), (0), rf_, H', ⟨Nat.le_refl _⟩, kw_ q5, ⟨hw_ HB⟩⟩
   case round =>
    clear H'; (try clear c2); (try clear n9); (try clear o0); (try clear c3)
    obtain ⟨a6, a4, rfl, HA, n3, b0, HB⟩ := hrel
    cases gk with
    | zero => exact absurd HA.out (by simp [laws_toPhaseS.l0])
    | succ k1 =>
     have H := HA.out; clear HA
     simp only [laws_toPhaseS.l0] at H
     by_cases c6 : a4 < (l0.length : Int)
     ·rw [if_pos c6] at H; have m8 : decide (a4 < (l0.length : Int)) = true := decide_eq_true c6; clear c6; by_cases c7 : 0 ≤ a4
      ·rw [if_pos c7] at H; have C5 : decide (0 ≤ a4) = true := decide_eq_true c7; clear c7; replace H := Option.bind_eq_some_iff.mp H; obtain ⟨⟨j6, j7⟩, q6, H⟩ := H; (try dsimp only at H); have A8 := mk_ q6; clear q6; by_cases c9 : a4 < (a6.length : Int)
       ·rw [if_pos c9] at H; have o1 : decide (a4 < (a6.length : Int)) = true := decide_eq_true c9; clear c9
        obtain ⟨o2, g5⟩ : ∃ y_ : List (S137), y_ = (a6.set (a4 : Int).toNat (⟨j6, j7⟩ : S137)) := ⟨_, rfl⟩
        replace H : (laws_toPhaseS.l0 k1 l0 o2 (wrap64 (a4 + 1))) = some r := by first | (rw [g5]; with_reducible exact H) | (have H2_ := (Option.bind_some _ _).symm.trans H; rw [g5]; with_reducible exact H2_) | (have H2_ := (Option.bind_some _ _).symm.trans H; with_reducible exact H2_) | with_reducible exact H | (rw [g5]; exact H) | exact H
        have q7 := mk_ g5; clear g5
        have H' := mk_ H
        clear H
        have o3 : 0 ≤ (a4 : Int) := od_
        have o4 : a4 < (l0.length : Int) := od_
        obtain ⟨D9, C6, d7, d8⟩ := at_T139 C2.out a4 o3 o4; cases C6
        replace d7 := (HB.out.cell (World.block_lt_of_cell? w _ d7)).trans d7
        replace d8 := (HB.out.cell (World.block_lt_of_cell? w _ d8)).trans d8
        replace o3 := eq_true o3; replace o4 := eq_true o4
        go_wp2_with (first | ((with_reducible refine gc_ 108 rfl ?_); refine gl_ (some 20) rfl Try.func108 #[.agg #[.int .i64 ((rd_T139 l0 a4).f0), .int .i64 ((rd_T139 l0 a4).f1)]] ?_; (with_reducible refine (laws_toPhase.calls ((rd_T139 l0 a4).f0) ((rd_T139 l0 a4).f1) j6 j7 _ A8.out).mono ?_); rintro e h7 ⟨rfl, hb⟩; refine ⟨_, rfl, ?_⟩; replace b0 := rb_ b0 hb; replace HB := bp_ HB hb; (try clear hb); (try clear F6); (try clear hk); (try clear hi); have o5 : 0 ≤ (a4 : Int) := od_; have o6 : (a4 : Int) < ((a6.length : Int) : Int) := od_; obtain ⟨b1, l7, l8, l9, gl10, cl10, HG10⟩ := Kd.R_form b0.out (by omega); (first | cases l8 | (injection l8 with ea_ en_ ec_; (first | subst ea_ | (injection ea_ with ea_; subst ea_)); subst ec_; clear en_)); have GB10 := mk_ l9; have C7 := mk_ HG10; clear l9 gl10 HG10; obtain ⟨C8, m0, m1, b9, c8⟩ := Kd.R_elem b0.out z137 (a4 : Int) o5 o6; obtain rfl := k137_openM m1; have o7 : h7.cell? ⟨b1, (a4 : Int).toNat * 2, none⟩ = some (.int .i64 ((rd_T137 a6 a4).f0)) := b9 0 _ rfl; have o8 : h7.cell? ⟨b1, (a4 : Int).toNat * 2 + 1, none⟩ = some (.int .i64 ((rd_T137 a6 a4).f1)) := b9 1 _ rfl; have o9 : h7.frozen? ⟨b1, (a4 : Int).toNat * 2, none⟩ = false := c8 0; have p0 : h7.frozen? ⟨b1, (a4 : Int).toNat * 2 + 1, none⟩ = false := c8 1; clear m0 b9 c8; (try clear m1); replace o5 := eq_true o5; replace o6 := eq_true o6; have m2 := mk_ (show Kd.R k137 137 h7 w.heap.size (fun _ => True) (.slice (some ⟨b1, 0, none⟩) a6.length l7) a6 from (by exact b0.out)); obtain ⟨C9, g6, m3, b5, d0⟩ := Kd.R_elem m2.out z137 (a4 : Int) (od_) (by have h_ : (a4 : Int) < ((a6.length : Int) : Int) := od_; first | exact h_ | (have e_ := (Kd.R_reads' b0.out).1; omega) | simpa using h_); obtain rfl := k137_openM m3; have HP12 := Kd.R_seg m2.out (a4 : Int) (od_) (by have h_ : (a4 : Int) < ((a6.length : Int) : Int) := od_; first | exact h_ | (have e_ := (Kd.R_reads' b0.out).1; omega) | simpa using h_) (seg := [.int .i64 j6, .int .i64 j7]) (j := 0) g6 b5 (show 2 ≤ 2 from by decide) (x' := (⟨j6, j7⟩ : S137)) (k137_mkM _ _ _ (⟨j6, j7⟩ : S137) ) (fun _ hk => hk); have h8 := b5 0 _ rfl; (try simp only [show (k137).sz = 2 from rfl, Nat.mul_one, Nat.add_zero] at h8); have h9 := d0 0; (try simp only [show (k137).sz = 2 from rfl, Nat.mul_one, Nat.add_zero] at h9); have j1 := b5 1 _ rfl; (try simp only [show (k137).sz = 2 from rfl, Nat.mul_one, Nat.add_zero] at j1); have j2 := d0 1; (try simp only [show (k137).sz = 2 from rfl, Nat.mul_one, Nat.add_zero] at j2); clear g6 b5 d0; (try clear m3)) | ((with_reducible refine gate_store (t := 137) (p := 21) rfl ?_); refine store_event (t := 137) (p := 21) (v := ?vo_w13) (w1 := ((h7.setCell ⟨b1, (a4 : Int).toNat * 2, none⟩ (.int .i64 j6)).setCell ⟨b1, (a4 : Int).toNat * 2 + 1, none⟩ (.int .i64 j7))) ?hg ?ho ?hn ?hr ?_; (case ho => rfl); (case hg => rfl); (case hn => rfl); (case hr => exact hr_); intro p1 hw; have hg : h7.grownBy p1 (some b1) := (by rw [hw]; exact HP12.2); have hp_ : Kd.R k137 137 p1 w.heap.size (fun _ => True) (.slice (some ⟨b1, 0, none⟩) a6.length l7) o2 := (by rw [hw, q7.out]; exact HP12.1); clear HP12; replace b0 := mk_ (hp_); replace HB := mk_ ((by rw [hw]; exact below_set (below_set (HB.out) GB10.out) GB10.out : Below w.heap.size w p1)); clear hg hw hp_))
        go_roundg k1
        case measure => have := n3.out; omega
        case rel => exact ⟨(o2), (wrap64 (a4 + 1)), rf_, H', ⟨by have := n3.out; omega⟩, kw_ b0, ⟨hw_ HB⟩⟩
       ·rw [if_neg c9] at H
        exact absurd H (by simp)
      ·rw [if_neg c7] at H
       exact absurd H (by simp)
     ·rw [if_neg c6] at H; have m8 : decide (a4 < (l0.length : Int)) = false := decide_eq_false c6; clear c6; obtain rfl := Option.some.inj H; go_wp2; go_ret
      exact ⟨_, re_, by (with_reducible repeat (first | apply Kd.R_alloc | apply Kd.R_drewN | apply Kd.R_drew)); exact b0.out, hw_ HB⟩
  ·rw [if_neg c3] at H
   exact absurd H (by simp)
 ·rw [if_neg c2] at H
  exact absurd H (by simp)

/-! ### laws_toPeak: function 109 -/
def laws_toPeak.f (a0_0 : Int) (a0_1 : Int) : Option (Int × Int) := some (a0_0, a0_1)
set_option maxHeartbeats 8000000 in
set_option maxRecDepth 100000 in
theorem laws_toPeak.calls (a0_0 : Int) (a0_1 : Int) (r1 : Int) (r2 : Int) (w : World) (h : laws_toPeak.f a0_0 a0_1 = some (r1, r2)) :
  Calls Try.prog 109 #[.agg #[.int .i64 a0_0, .int .i64 a0_1]] w fun e w' => e = .returned (.agg #[.int .i64 r1, .int .i64 r2]) ∧ Below w.heap.size w w' := by
 have q8 := Try.underlying141
 have q9 := Try.underlying134
 have HB := mk_ (Below.refl w.heap.size w)
 have H : (some (a0_0, a0_1)) = some (r1, r2) := h
 clear h
 simp only [Option.some.injEq, Prod.mk.injEq] at H
 obtain ⟨rfl, rfl⟩ := H
 go_enter Try.func109, Try.ntmps109
 go_wp2_with (first | ((with_reducible refine gd_ 1 rfl ?_); refine box_event ?hg (N := 1) ?hd (cs := #[.int .i64 a0_0, .int .i64 a0_1]) (t := 141) ?hr ?_; (case hd => rfl); (case hg => rfl); (case hr => exact hr_); intro E0 hg w2 hbox hb; have b4 := mk_ (hbox); have s0 := gb_ hg HB; replace HB := bp_ HB hb; have E1 := s0; clear hb hbox hg) | ((with_reducible refine gd_ 2 rfl ?_); refine box_event ?hg (N := 2) ?hd (cs := #[.int .i64 0, .int .i64 0]) (t := 134) ?hr ?_; (case hd => rfl); (case hg => rfl); (case hr => exact hr_); intro s1 hg w3 hbox hb; have b7 := mk_ (hbox); have s2 := gb_ hg HB; replace HB := bp_ HB hb; have s3 := s2; have d4 := nb_ hg b4; replace b4 := bl_ b4 hb; have j8 := ns_ d4; clear hb hbox hg) | ((with_reducible refine gd_ 3 rfl ?_); refine box_event ?hg (N := 3) ?hd (cs := #[.int .i64 0, .int .i64 0]) (t := 134) ?hr ?_; (case hd => rfl); (case hg => rfl); (case hr => exact hr_); intro E2 hg w4 hbox hb; have j3 := mk_ (hbox); have s4 := gb_ hg HB; replace HB := bp_ HB hb; have s5 := s4; have d5 := nb_ hg b4; replace b4 := bl_ b4 hb; have j9 := ns_ d5; have b2 := nb_ hg b7; replace b7 := bl_ b7 hb; have l2 := ns_ b2; clear hb hbox hg; have F7 := d4.out; have F8 := j8.out; have F9 := d5.out; have G0 := j9.out; have D0 := bc0_ b4; have D1 := bc1_ b4; have D2 := bf_ b4 0; have D3 := bf_ b4 1; have G1 := l2.out; have G2 := b2.out; have p2 := bc0_ j3; have p3 := bc1_ j3; have p4 := bf_ j3 0; have p5 := bf_ j3 1; have y7 := bc0_ b7; have y8 := bc1_ b7; have y9 := bf_ b7 0; have A2 := bf_ b7 1))
 refine bodyPost_ret (results_cell_row rfl _ _ s1 134 #[.int .i64 a0_0, .int .i64 a0_1] (0, 0) _ rfl (by (with_reducible repeat (first | refine blk_drewN ?_ _ | refine blk_drew ?_ | refine blk_alloc ?_ _)); refine blk_put (cs := #[.int .i64 a0_0, .int .i64 0]) ?_ 1 _ rfl; (with_reducible repeat (first | refine blk_drewN ?_ _ | refine blk_drew ?_ | refine blk_alloc ?_ _)); refine blk_put (cs := #[.int .i64 0, .int .i64 0]) ?_ 0 _ rfl; (with_reducible repeat (first | refine blk_drewN ?_ _ | refine blk_drew ?_ | refine blk_alloc ?_ _)); refine blk_far ?_ b2.out _; (with_reducible repeat (first | refine blk_drewN ?_ _ | refine blk_drew ?_ | refine blk_alloc ?_ _)); refine blk_far ?_ b2.out _; (with_reducible repeat (first | refine blk_drewN ?_ _ | refine blk_drew ?_ | refine blk_alloc ?_ _)); exact b7.out) Try.underlying134 rfl (by kernel_rfl)) rfl ?_
 exact ⟨re_, by repeat (first | (with_reducible first | exact HB.out | apply below_alloc | apply pw_below_drewN | apply below_drew1 | refine below_set ?_ s3.out | refine below_set ?_ s5.out) | exact HB.out)⟩

/-! ### laws_toPeakS: function 55 -/
def laws_toPeakS.l0 : Nat → List (S141) → List (S134) → Int → Option ((List (S134)))
 | 0, _, _, _ => none
 | k + 1, x0, x3, x4 => if x4 < (x0.length : Int) then (if 0 ≤ x4 then ((laws_toPeak.f ((rd_T141 x0 x4).f0) ((rd_T141 x0 x4).f1)).bind fun n4 => (if x4 < (x3.length : Int) then (laws_toPeakS.l0 k x0 (x3.set (x4 : Int).toNat (⟨n4.1, n4.2⟩ : S134)) (wrap64 (x4 + 1))) else (none))) else (none)) else (some x3)
def laws_toPeakS.f (k : Nat) (l0 : List (S141)) : Option ((List (S134))) := if 0 ≤ (l0.length : Int) then (if ((l0.length : Int) : Int).toNat ≤ 17592186044416 then (laws_toPeakS.l0 k l0 (List.replicate ((l0.length : Int) : Int).toNat z134) 0) else (none)) else (none)
theorem laws_toPeakS.mono_l : ∀ k, (∀ y0 y1 y2, LeO (laws_toPeakS.l0 k y0 y1 y2) (laws_toPeakS.l0 (k + 1) y0 y1 y2))
 | 0 => fun _ _ _ r h => by simp [laws_toPeakS.l0] at h
 | k + 1 => by
  have b8 := laws_toPeakS.mono_l k
  ·intro y0 y1 y2
   unfold laws_toPeakS.l0
   repeat' first
   | (with_reducible exact b8 _ _ _)
   | (with_reducible exact LeO.refl _)
   | (with_reducible exact LeO.none _)
   | (with_reducible refine LeO.ite ?_ ?_)
   | (with_reducible refine LeO.bind ?_ (fun _ => ?_))
   | exact b8 _ _ _
   | exact LeO.none _
   | refine LeO.ite ?_ ?_
   | refine LeO.bind ?_ (fun _ => ?_)
theorem laws_toPeakS.mono : ∀ a0 k, LeO (laws_toPeakS.f k a0) (laws_toPeakS.f (k + 1) a0) := by
 intro a0 k
 have b8 := laws_toPeakS.mono_l k
 unfold laws_toPeakS.f
 repeat' first
   | (with_reducible exact b8 _ _ _)
   | (with_reducible exact LeO.refl _)
   | (with_reducible exact LeO.none _)
   | (with_reducible refine LeO.ite ?_ ?_)
   | (with_reducible refine LeO.bind ?_ (fun _ => ?_))
   | exact b8 _ _ _
   | exact LeO.none _
   | refine LeO.ite ?_ ?_
   | refine LeO.bind ?_ (fun _ => ?_)
set_option maxHeartbeats 8000000 in
set_option maxRecDepth 100000 in
theorem laws_toPeakS.calls (k : Nat) (A0 : Option Addr) (c0 : Nat) (l0 : List (S141)) (r : List (S134)) (w : World) (hr0 : Kd.C k141 w A0 l0.length l0) (hc0 : l0.length ≤ c0) (h : laws_toPeakS.f k l0 = some r) :
  Calls Try.prog 55 #[.slice A0 l0.length c0] w fun e w' => ∃ v0_ : Value, e = .returned (v0_) ∧ Kd.R k134 134 w' w.heap.size (fun _ => True) v0_ r ∧ Below w.heap.size w w' := by
 have q8 := Try.underlying141
 have q9 := Try.underlying134
 have C2 := mk_ hr0; have F5 := mk_ hc0; clear hr0 hc0; have HB := mk_ (Below.refl w.heap.size w)
 have H : (if 0 ≤ (l0.length : Int) then (if ((l0.length : Int) : Int).toNat ≤ 17592186044416 then (laws_toPeakS.l0 k l0 (List.replicate ((l0.length : Int) : Int).toNat z134) 0) else (none)) else (none)) = some r := h
 clear h; by_cases c2 : 0 ≤ (l0.length : Int)
 ·rw [if_pos c2] at H
  have n9 := eq_true c2
  have o0 : decide (0 ≤ (l0.length : Int)) = true := decide_eq_true c2; clear c2; by_cases c3 : ((l0.length : Int) : Int).toNat ≤ 17592186044416
  ·rw [if_pos c3] at H
   have C3 := eq_true c3
   have C4 : decide (((l0.length : Int) : Int).toNat ≤ 17592186044416) = true := decide_eq_true c3; clear c3
   obtain ⟨s6, g7⟩ : ∃ y_ : List (S134), y_ = (List.replicate ((l0.length : Int) : Int).toNat z134) := ⟨_, rfl⟩
   replace H : (laws_toPeakS.l0 k l0 s6 0) = some r := by first | (rw [g7]; with_reducible exact H) | (have H2_ := (Option.bind_some _ _).symm.trans H; rw [g7]; with_reducible exact H2_) | (have H2_ := (Option.bind_some _ _).symm.trans H; with_reducible exact H2_) | with_reducible exact H | (rw [g7]; exact H) | exact H
   have n5 := mk_ g7; clear g7
   have H' := mk_ H
   clear H
   go_enter Try.func55, Try.ntmps55
   go_wp2_with (first | ((with_reducible refine gd_ 7 rfl ?_); refine Kd.R_make k134 _ 134 rfl (N := 7) rfl 93 _ _ rfl (l0.length : Int) rfl rfl Try.underlying93 (.agg #[(.int .i64 0), (.int .i64 0)]) 16 info134 rfl (by decide) (by omega) z134 (ok := fun _ => True) (okp := fun _ => True) (k134_mkM _ _ _ z134 ) (fun _ hk => hk) trivial (od_) (Nat.le_trans (Nat.mul_le_mul_right _ (od_ : (l0.length : Int).toNat ≤ 17592186044416)) (by omega)) (Below.refl _ _) (Nat.le_refl _) ?_; intro v132 w4 l6 hb hg_ hnew_; clear hg_ hnew_; (first | rw [← n5.out] at l6 | (simp only [Int.reduceToNat] at l6; rw [← n5.out] at l6)); have s7 := mk_ (Kd.R_lower l6 (below_size (by exact HB.out))); replace HB := bp_ HB hb; clear hb l6))
   go_loopg [4] k (fun kq v4 w' => ∃ (a6 : List (S134)) (a4 : Int), v4 = .int .i64 a4 ∧ Aside0 (laws_toPeakS.l0 kq l0 a6 a4 = some r) ∧ Aside0 (kq ≤ k) ∧ Aside0 (Kd.R k134 134 w' w.heap.size (fun _ => True) v132 a6) ∧ Aside0 (Below w.heap.size w w'))
   case atStart => exact ⟨(s6), (0), rf_, H', ⟨Nat.le_refl _⟩, kw_ s7, ⟨hw_ HB⟩⟩
   case round =>
    clear H'; (try clear c2); (try clear n9); (try clear o0); (try clear c3)
    obtain ⟨a6, a4, rfl, HA, n3, b0, HB⟩ := hrel
    cases gk with
    | zero => exact absurd HA.out (by simp [laws_toPeakS.l0])
    | succ k1 =>
     have H := HA.out; clear HA
     simp only [laws_toPeakS.l0] at H
     by_cases c6 : a4 < (l0.length : Int)
     ·rw [if_pos c6] at H; have m8 : decide (a4 < (l0.length : Int)) = true := decide_eq_true c6; clear c6; by_cases c7 : 0 ≤ a4
      ·rw [if_pos c7] at H; have C5 : decide (0 ≤ a4) = true := decide_eq_true c7; clear c7; replace H := Option.bind_eq_some_iff.mp H; obtain ⟨⟨l3, l4⟩, q6, H⟩ := H; (try dsimp only at H); have A8 := mk_ q6; clear q6; by_cases c9 : a4 < (a6.length : Int)
       ·rw [if_pos c9] at H; have o1 : decide (a4 < (a6.length : Int)) = true := decide_eq_true c9; clear c9
        obtain ⟨p6, g8⟩ : ∃ y_ : List (S134), y_ = (a6.set (a4 : Int).toNat (⟨l3, l4⟩ : S134)) := ⟨_, rfl⟩
        replace H : (laws_toPeakS.l0 k1 l0 p6 (wrap64 (a4 + 1))) = some r := by first | (rw [g8]; with_reducible exact H) | (have H2_ := (Option.bind_some _ _).symm.trans H; rw [g8]; with_reducible exact H2_) | (have H2_ := (Option.bind_some _ _).symm.trans H; with_reducible exact H2_) | with_reducible exact H | (rw [g8]; exact H) | exact H
        have s8 := mk_ g8; clear g8
        have H' := mk_ H
        clear H
        have p7 : 0 ≤ (a4 : Int) := od_
        have p8 : a4 < (l0.length : Int) := od_
        obtain ⟨E3, D4, d9, g1⟩ := at_T141 C2.out a4 p7 p8; cases D4
        replace d9 := (HB.out.cell (World.block_lt_of_cell? w _ d9)).trans d9
        replace g1 := (HB.out.cell (World.block_lt_of_cell? w _ g1)).trans g1
        replace p7 := eq_true p7; replace p8 := eq_true p8
        go_wp2_with (first | ((with_reducible refine gc_ 109 rfl ?_); refine gl_ (some 20) rfl Try.func109 #[.agg #[.int .i64 ((rd_T141 l0 a4).f0), .int .i64 ((rd_T141 l0 a4).f1)]] ?_; (with_reducible refine (laws_toPeak.calls ((rd_T141 l0 a4).f0) ((rd_T141 l0 a4).f1) l3 l4 _ A8.out).mono ?_); rintro e h7 ⟨rfl, hb⟩; refine ⟨_, rfl, ?_⟩; replace b0 := rb_ b0 hb; replace HB := bp_ HB hb; (try clear hb); (try clear F6); (try clear hk); (try clear hi); have o5 : 0 ≤ (a4 : Int) := od_; have o6 : (a4 : Int) < ((a6.length : Int) : Int) := od_; obtain ⟨b1, l7, l8, l9, gl10, cl10, HG10⟩ := Kd.R_form b0.out (by omega); (first | cases l8 | (injection l8 with ea_ en_ ec_; (first | subst ea_ | (injection ea_ with ea_; subst ea_)); subst ec_; clear en_)); have GB10 := mk_ l9; have C7 := mk_ HG10; clear l9 gl10 HG10; obtain ⟨C8, m0, m1, b9, c8⟩ := Kd.R_elem b0.out z134 (a4 : Int) o5 o6; obtain rfl := k134_openM m1; have o7 : h7.cell? ⟨b1, (a4 : Int).toNat * 2, none⟩ = some (.int .i64 ((rd_T134 a6 a4).f0)) := b9 0 _ rfl; have o8 : h7.cell? ⟨b1, (a4 : Int).toNat * 2 + 1, none⟩ = some (.int .i64 ((rd_T134 a6 a4).f1)) := b9 1 _ rfl; have o9 : h7.frozen? ⟨b1, (a4 : Int).toNat * 2, none⟩ = false := c8 0; have p0 : h7.frozen? ⟨b1, (a4 : Int).toNat * 2 + 1, none⟩ = false := c8 1; clear m0 b9 c8; (try clear m1); replace o5 := eq_true o5; replace o6 := eq_true o6; have m2 := mk_ (show Kd.R k134 134 h7 w.heap.size (fun _ => True) (.slice (some ⟨b1, 0, none⟩) a6.length l7) a6 from (by exact b0.out)); obtain ⟨C9, g6, m3, b5, d0⟩ := Kd.R_elem m2.out z134 (a4 : Int) (od_) (by have h_ : (a4 : Int) < ((a6.length : Int) : Int) := od_; first | exact h_ | (have e_ := (Kd.R_reads' b0.out).1; omega) | simpa using h_); obtain rfl := k134_openM m3; have HP12 := Kd.R_seg m2.out (a4 : Int) (od_) (by have h_ : (a4 : Int) < ((a6.length : Int) : Int) := od_; first | exact h_ | (have e_ := (Kd.R_reads' b0.out).1; omega) | simpa using h_) (seg := [.int .i64 l3, .int .i64 l4]) (j := 0) g6 b5 (show 2 ≤ 2 from by decide) (x' := (⟨l3, l4⟩ : S134)) (k134_mkM _ _ _ (⟨l3, l4⟩ : S134) ) (fun _ hk => hk); have h8 := b5 0 _ rfl; (try simp only [show (k134).sz = 2 from rfl, Nat.mul_one, Nat.add_zero] at h8); have h9 := d0 0; (try simp only [show (k134).sz = 2 from rfl, Nat.mul_one, Nat.add_zero] at h9); have j1 := b5 1 _ rfl; (try simp only [show (k134).sz = 2 from rfl, Nat.mul_one, Nat.add_zero] at j1); have j2 := d0 1; (try simp only [show (k134).sz = 2 from rfl, Nat.mul_one, Nat.add_zero] at j2); clear g6 b5 d0; (try clear m3)) | ((with_reducible refine gate_store (t := 134) (p := 21) rfl ?_); refine store_event (t := 134) (p := 21) (v := ?vo_w13) (w1 := ((h7.setCell ⟨b1, (a4 : Int).toNat * 2, none⟩ (.int .i64 l3)).setCell ⟨b1, (a4 : Int).toNat * 2 + 1, none⟩ (.int .i64 l4))) ?hg ?ho ?hn ?hr ?_; (case ho => rfl); (case hg => rfl); (case hn => rfl); (case hr => exact hr_); intro p1 hw; have hg : h7.grownBy p1 (some b1) := (by rw [hw]; exact HP12.2); have hp_ : Kd.R k134 134 p1 w.heap.size (fun _ => True) (.slice (some ⟨b1, 0, none⟩) a6.length l7) p6 := (by rw [hw, s8.out]; exact HP12.1); clear HP12; replace b0 := mk_ (hp_); replace HB := mk_ ((by rw [hw]; exact below_set (below_set (HB.out) GB10.out) GB10.out : Below w.heap.size w p1)); clear hg hw hp_))
        go_roundg k1
        case measure => have := n3.out; omega
        case rel => exact ⟨(p6), (wrap64 (a4 + 1)), rf_, H', ⟨by have := n3.out; omega⟩, kw_ b0, ⟨hw_ HB⟩⟩
       ·rw [if_neg c9] at H
        exact absurd H (by simp)
      ·rw [if_neg c7] at H
       exact absurd H (by simp)
     ·rw [if_neg c6] at H; have m8 : decide (a4 < (l0.length : Int)) = false := decide_eq_false c6; clear c6; obtain rfl := Option.some.inj H; go_wp2; go_ret
      exact ⟨_, re_, by (with_reducible repeat (first | apply Kd.R_alloc | apply Kd.R_drewN | apply Kd.R_drew)); exact b0.out, hw_ HB⟩
  ·rw [if_neg c3] at H
   exact absurd H (by simp)
 ·rw [if_neg c2] at H
  exact absurd H (by simp)

/-! ### impl_in: function 76 -/
def impl_in.f (a0 : Int) (a1 : Int) (a2 : Int) : Option (Bool) := if a0 ≥ a1 then (some (decide (a0 ≤ a2))) else (some false)
set_option maxHeartbeats 8000000 in
set_option maxRecDepth 100000 in
theorem impl_in.calls (a0 : Int) (a1 : Int) (a2 : Int) (r : Bool) (w : World) (h : impl_in.f a0 a1 a2 = some r) :
  Calls Try.prog 76 #[.int .i64 a0, .int .i64 a1, .int .i64 a2] w fun e w' => e = .returned (.bool r) ∧ Drawn0 w w' := by
 have H : (if a0 ≥ a1 then (some (decide (a0 ≤ a2))) else (some false)) = some r := h
 clear h; by_cases c4 : a0 ≥ a1
 ·rw [if_pos c4] at H; have p9 : decide (a1 ≤ a0) = true := decide_eq_true c4; clear c4; obtain rfl := Option.some.inj H
  go_enter Try.func76, Try.ntmps76
  go_wp2; go_ret
  exact ⟨by first | rfl | (simp; done) | (simp [*]; done), by repeat (first | exact Drawn0.refl _ | apply Drawn0.step)⟩
 ·rw [if_neg c4] at H; have p9 : decide (a1 ≤ a0) = false := decide_eq_false c4; clear c4; obtain rfl := Option.some.inj H
  go_enter Try.func76, Try.ntmps76
  go_wp2; go_ret
  exact ⟨by first | rfl | (simp; done) | (simp [*]; done), by repeat (first | exact Drawn0.refl _ | apply Drawn0.step)⟩

/-! ### impl_Climbs: function 60 -/
mutual
def impl_Climbs.j0 : Nat → Int → List (S137) → Bool → Option (List Int × Bool)
 | 0, _, _, _ => none
 | k + 1, x0, x1, G3 => if G3 = true then (some (([] : List Int), false)) else (impl_Climbs.l0 k x0 (([] : List Int)) x1 (x1.length : Int) 0)
def impl_Climbs.l0 : Nat → Int → List Int → List (S137) → Int → Int → Option (List Int × Bool)
 | 0, _, _, _, _, _ => none
 | k + 1, x0, x6, n6, E4, m7 => if m7 < E4 then (if 0 ≤ m7 then (if m7 < (n6.length : Int) then ((impl_in.f ((rd_T137 n6 m7).f0) (-100) 100).bind fun m9 => (if m9 = true then ((impl_in.f ((rd_T137 n6 m7).f1) 1 1000).bind fun g9 => (if g9 = true then (if x6.length < 17592186044416 then (impl_Climbs.l0 k (wrap64 (x0 + (wrap64 (((rd_T137 n6 m7).f0) * ((rd_T137 n6 m7).f1))))) (x6 ++ [wrap64 (x0 + (wrap64 (((rd_T137 n6 m7).f0) * ((rd_T137 n6 m7).f1))))]) n6 E4 (wrap64 (m7 + 1))) else (none)) else (some (([] : List Int), false)))) else (some (([] : List Int), false)))) else (none)) else (none)) else (some (x6, true))
end
def impl_Climbs.f (k : Nat) (a0 : Int) (l1 : List (S137)) : Option (List Int × Bool) := (impl_in.f a0 0 100000).bind fun l5 => (if l5 = true then (impl_Climbs.j0 k a0 l1 (decide ((l1.length : Int) > 12))) else (impl_Climbs.j0 k a0 l1 true))
theorem impl_Climbs.mono_l : ∀ k, (∀ y0 y1 y2, LeO (impl_Climbs.j0 k y0 y1 y2) (impl_Climbs.j0 (k + 1) y0 y1 y2)) ∧ (∀ y0 y1 y2 y3 y4, LeO (impl_Climbs.l0 k y0 y1 y2 y3 y4) (impl_Climbs.l0 (k + 1) y0 y1 y2 y3 y4))
 | 0 => ⟨fun _ _ _ r h => by simp [impl_Climbs.j0] at h, fun _ _ _ _ _ r h => by simp [impl_Climbs.l0] at h⟩
 | k + 1 => by
  obtain ⟨b8, q0⟩ := impl_Climbs.mono_l k
  refine ⟨?_, ?_⟩
  ·intro y0 y1 y2
   unfold impl_Climbs.j0
   repeat' first
   | (with_reducible exact b8 _ _ _)
   | (with_reducible exact q0 _ _ _ _ _)
   | (with_reducible exact LeO.refl _)
   | (with_reducible exact LeO.none _)
   | (with_reducible refine LeO.ite ?_ ?_)
   | (with_reducible refine LeO.bind ?_ (fun _ => ?_))
   | exact b8 _ _ _
   | exact q0 _ _ _ _ _
   | exact LeO.none _
   | refine LeO.ite ?_ ?_
   | refine LeO.bind ?_ (fun _ => ?_)
  ·intro y0 y1 y2 y3 y4
   unfold impl_Climbs.l0
   repeat' first
   | (with_reducible exact b8 _ _ _)
   | (with_reducible exact q0 _ _ _ _ _)
   | (with_reducible exact LeO.refl _)
   | (with_reducible exact LeO.none _)
   | (with_reducible refine LeO.ite ?_ ?_)
   | (with_reducible refine LeO.bind ?_ (fun _ => ?_))
   | exact b8 _ _ _
   | exact q0 _ _ _ _ _
   | exact LeO.none _
   | refine LeO.ite ?_ ?_
   | refine LeO.bind ?_ (fun _ => ?_)
theorem impl_Climbs.mono : ∀ a0 a1 k, LeO (impl_Climbs.f k a0 a1) (impl_Climbs.f (k + 1) a0 a1) := by
 intro a0 a1 k
 obtain ⟨b8, q0⟩ := impl_Climbs.mono_l k
 unfold impl_Climbs.f
 repeat' first
   | (with_reducible exact b8 _ _ _)
   | (with_reducible exact q0 _ _ _ _ _)
   | (with_reducible exact LeO.refl _)
   | (with_reducible exact LeO.none _)
   | (with_reducible refine LeO.ite ?_ ?_)
   | (with_reducible refine LeO.bind ?_ (fun _ => ?_))
   | exact b8 _ _ _
   | exact q0 _ _ _ _ _
   | exact LeO.none _
   | refine LeO.ite ?_ ?_
   | refine LeO.bind ?_ (fun _ => ?_)
set_option maxHeartbeats 8000000 in
set_option maxRecDepth 100000 in
theorem impl_Climbs.calls (k : Nat) (a0 : Int) (A1 : Option Addr) (c1 : Nat) (l1 : List (S137)) (r1 : List Int) (r2 : Bool) (w : World) (hr1 : Kd.C k137 w A1 l1.length l1) (hc1 : l1.length ≤ c1) (h : impl_Climbs.f k a0 l1 = some (r1, r2)) :
  Calls Try.prog 60 #[.int .i64 a0, .slice A1 l1.length c1] w fun e w' => ∃ v0_ : Value, e = .returned (.tuple #[v0_, .bool r2]) ∧ Kd.R (Kd.int .i64) 3 w' w.heap.size (fun _ => True) v0_ r1 ∧ Below w.heap.size w w' := by
 have n1 := Try.underlying137
 have s9 := mk_ hr1; have G4 := mk_ hc1; clear hr1 hc1; have HB := mk_ (Below.refl w.heap.size w)
 have H : ((impl_in.f a0 0 100000).bind fun l5 => (if l5 = true then (impl_Climbs.j0 k a0 l1 (decide ((l1.length : Int) > 12))) else (impl_Climbs.j0 k a0 l1 true))) = some (r1, r2) := h
 clear h; have D5 := mk_ H; clear H
 go_enter Try.func60, Try.ntmps60
 go_upto_region 1 with (fail)
 go_cut [16] (fun v16 wc => ∃ (kq : Nat) (j4 : Bool), v16 = .bool j4 ∧ Aside0 (impl_Climbs.j0 kq a0 l1 j4 = some (r1, r2)) ∧ Aside0 (kq ≤ k) ∧ Aside0 (Below w.heap.size w wc))
 case first =>
  have H := D5.out; clear D5; replace H := Option.bind_eq_some_iff.mp H; obtain ⟨l5, E5, H⟩ := H
  replace H : (if l5 = true then (impl_Climbs.j0 k a0 l1 (decide ((l1.length : Int) > 12))) else (impl_Climbs.j0 k a0 l1 true)) = some (r1, r2) := H
  have A4 := mk_ E5; clear E5; by_cases c5 : l5 = true
  ·subst c5
   have H1 : (impl_Climbs.j0 k a0 l1 (decide ((l1.length : Int) > 12))) = some (r1, r2) := by rw [if_pos rfl] at H; exact H
   clear H
   have H := H1
   clear H1
   have H' := mk_ H
   clear H
   go_wp2_with (first | ((with_reducible refine gc_ 76 rfl ?_); refine gl_ (some 10) rfl Try.func76 #[.int .i64 a0, .int .i64 0, .int .i64 100000] ?_; (with_reducible refine (impl_in.calls a0 0 100000 true _ A4.out).mono ?_); rintro e w' ⟨rfl, ⟨nd, rfl⟩⟩; refine ⟨_, rfl, ?_⟩))
   go_meet
   case rel => exact ⟨_, (decide ((l1.length : Int) > 12)), rf_, H', ⟨by first | omega | exact Nat.le_refl _⟩, ⟨hw_ HB⟩⟩
  ·replace c5 := Bool.eq_false_iff.mpr c5; subst c5
   have H1 : (impl_Climbs.j0 k a0 l1 true) = some (r1, r2) := by rw [if_neg (show ¬ (false = true) by decide)] at H; exact H
   clear H
   have H := H1
   clear H1
   have H' := mk_ H
   clear H
   go_wp2_with (first | ((with_reducible refine gc_ 76 rfl ?_); refine gl_ (some 10) rfl Try.func76 #[.int .i64 a0, .int .i64 0, .int .i64 100000] ?_; (with_reducible refine (impl_in.calls a0 0 100000 false _ A4.out).mono ?_); rintro e w' ⟨rfl, ⟨nd, rfl⟩⟩; refine ⟨_, rfl, ?_⟩))
   go_meet
   case rel => exact ⟨_, (true), rf_, H', ⟨by first | omega | exact Nat.le_refl _⟩, ⟨hw_ HB⟩⟩
 case rest =>
  clear D5; (try clear c1)
  obtain ⟨kq, j4, rfl, HA, E6, HB⟩ := hcut
  cases kq with
  | zero => exact absurd HA.out (by simp [impl_Climbs.j0])
  | succ kj2 =>
   have H := HA.out; clear HA
   simp only [impl_Climbs.j0] at H
   by_cases c6 : j4 = true
   ·subst c6
    have H1 : (some (([] : List Int), false)) = some (r1, r2) := by rw [if_pos rfl] at H; exact H
    clear H
    have H := H1
    clear H1
    simp only [Option.some.injEq, Prod.mk.injEq] at H
    obtain ⟨rfl, rfl⟩ := H; go_wp2
    go_ret2
    exact ⟨_, re_, by first | exact Kd.R_nil _ _ _ _ _ | exact Kd.N_nil _ _ _ _ _ | exact Kd.V_nil _ _ _ _ _ | exact Kd.Q_nil _ _ _ _ _ | exact Kd.S_nil _ _ _ _ _, hw_ HB⟩
   ·replace c6 := Bool.eq_false_iff.mpr c6; subst c6
    have H1 : (impl_Climbs.l0 kj2 a0 (([] : List Int)) l1 (l1.length : Int) 0) = some (r1, r2) := by rw [if_neg (show ¬ (false = true) by decide)] at H; exact H
    clear H
    have H := H1
    clear H1
    obtain ⟨t0, h2⟩ : ∃ y_ : List Int, y_ = (([] : List Int)) := ⟨_, rfl⟩
    replace H : (impl_Climbs.l0 kj2 a0 t0 l1 (l1.length : Int) 0) = some (r1, r2) := by first | (rw [h2]; with_reducible exact H) | (have H2_ := (Option.bind_some _ _).symm.trans H; rw [h2]; with_reducible exact H2_) | (have H2_ := (Option.bind_some _ _).symm.trans H; with_reducible exact H2_) | with_reducible exact H | (rw [h2]; exact H) | exact H
    have n7 := mk_ h2; clear h2
    have H' := mk_ H
    clear H
    go_wp2_with (first | ((with_reducible refine gd_ 17 rfl ?_); (try (refine gate_guard (by rfl) ?_; dsimp only)); refine Kd.R_lit (Kd.int .i64) _ 3 ?hg (N := 17) ?hd (xs := ([] : List Int)) (inner := []) (ok := fun _ => True) (okp := fun _ => True) ?hr ?hp (fun _ hk => hk) trivial (Below.refl _ _) (Nat.le_refl _) (by simp) ?_; (case hd => rfl); (case hg => rfl); (case hr => exact hr_); (case hp => exact (Reps.none _ _)); intro v140 w7 t1 hb hg_ hnew_; clear hg_ hnew_; (first | rw [← n7.out] at t1 | (simp only [Int.reduceToNat] at t1; rw [← n7.out] at t1)); have t2 := mk_ (Kd.R_lower t1 (below_size (by exact HB.out))); replace HB := bp_ HB hb; clear hb t1))
    go_loopg [0, 6, 20] kj2 (fun kq v0 v6 v20 w' => ∃ (b3 : Int) (b6 : List Int) (a3 : Int), v0 = .int .i64 b3 ∧ v20 = .int .i64 a3 ∧ Aside0 (impl_Climbs.l0 kq b3 b6 l1 (l1.length : Int) a3 = some (r1, r2)) ∧ Aside0 (kq ≤ kj2) ∧ Aside0 (Kd.R (Kd.int .i64) 3 w' w.heap.size (fun _ => True) v6 b6) ∧ Aside0 (Below w.heap.size w w'))
    case atStart => exact ⟨(a0), (t0), (0), rf_, rf_, H', ⟨Nat.le_refl _⟩, kw_ t2, ⟨hw_ HB⟩⟩
    case round =>
     clear H'; (try clear c1); (try clear c6)
     obtain ⟨b3, b6, a3, rfl, rfl, HA, E7, d3, HB⟩ := hrel
     cases gk with
     | zero => exact absurd HA.out (by simp [impl_Climbs.l0])
     | succ k2 =>
      have H := HA.out; clear HA
      simp only [impl_Climbs.l0] at H
      by_cases c9 : a3 < (l1.length : Int)
      ·rw [if_pos c9] at H; have o1 : decide (a3 < (l1.length : Int)) = true := decide_eq_true c9; clear c9; by_cases A3 : 0 ≤ a3
       ·rw [if_pos A3] at H; have E8 : decide (0 ≤ a3) = true := decide_eq_true A3; clear A3; by_cases A5 : a3 < (l1.length : Int)
        ·rw [if_pos A5] at H; have E9 : decide (a3 < (l1.length : Int)) = true := decide_eq_true A5; clear A5; replace H := Option.bind_eq_some_iff.mp H; obtain ⟨m9, t3, H⟩ := H
         replace H : (if m9 = true then ((impl_in.f ((rd_T137 l1 a3).f1) 1 1000).bind fun g9 => (if g9 = true then (if b6.length < 17592186044416 then (impl_Climbs.l0 k2 (wrap64 (b3 + (wrap64 (((rd_T137 l1 a3).f0) * ((rd_T137 l1 a3).f1))))) (b6 ++ [wrap64 (b3 + (wrap64 (((rd_T137 l1 a3).f0) * ((rd_T137 l1 a3).f1))))]) l1 (l1.length : Int) (wrap64 (a3 + 1))) else (none)) else (some (([] : List Int), false)))) else (some (([] : List Int), false))) = some (r1, r2) := H
         have D6 := mk_ t3; clear t3; by_cases A6 : m9 = true
         ·subst A6
          have H1 : ((impl_in.f ((rd_T137 l1 a3).f1) 1 1000).bind fun g9 => (if g9 = true then (if b6.length < 17592186044416 then (impl_Climbs.l0 k2 (wrap64 (b3 + (wrap64 (((rd_T137 l1 a3).f0) * ((rd_T137 l1 a3).f1))))) (b6 ++ [wrap64 (b3 + (wrap64 (((rd_T137 l1 a3).f0) * ((rd_T137 l1 a3).f1))))]) l1 (l1.length : Int) (wrap64 (a3 + 1))) else (none)) else (some (([] : List Int), false)))) = some (r1, r2) := by rw [if_pos rfl] at H; exact H
          clear H
          have H := H1
          clear H1; replace H := Option.bind_eq_some_iff.mp H; obtain ⟨g9, t4, H⟩ := H
          replace H : (if g9 = true then (if b6.length < 17592186044416 then (impl_Climbs.l0 k2 (wrap64 (b3 + (wrap64 (((rd_T137 l1 a3).f0) * ((rd_T137 l1 a3).f1))))) (b6 ++ [wrap64 (b3 + (wrap64 (((rd_T137 l1 a3).f0) * ((rd_T137 l1 a3).f1))))]) l1 (l1.length : Int) (wrap64 (a3 + 1))) else (none)) else (some (([] : List Int), false))) = some (r1, r2) := H
          have F0 := mk_ t4; clear t4; by_cases A7 : g9 = true
          ·subst A7
           have H1 : (if b6.length < 17592186044416 then (impl_Climbs.l0 k2 (wrap64 (b3 + (wrap64 (((rd_T137 l1 a3).f0) * ((rd_T137 l1 a3).f1))))) (b6 ++ [wrap64 (b3 + (wrap64 (((rd_T137 l1 a3).f0) * ((rd_T137 l1 a3).f1))))]) l1 (l1.length : Int) (wrap64 (a3 + 1))) else (none)) = some (r1, r2) := by rw [if_pos rfl] at H; exact H
           clear H
           have H := H1
           clear H1; by_cases A9 : b6.length < 17592186044416
           ·rw [if_pos A9] at H; have LMc16 := mk_ A9; clear A9
            obtain ⟨t5, h3⟩ : ∃ y_ : List Int, y_ = (b6 ++ [wrap64 (b3 + (wrap64 (((rd_T137 l1 a3).f0) * ((rd_T137 l1 a3).f1))))]) := ⟨_, rfl⟩
            replace H : (impl_Climbs.l0 k2 (wrap64 (b3 + (wrap64 (((rd_T137 l1 a3).f0) * ((rd_T137 l1 a3).f1))))) t5 l1 (l1.length : Int) (wrap64 (a3 + 1))) = some (r1, r2) := by first | (rw [h3]; with_reducible exact H) | (have H2_ := (Option.bind_some _ _).symm.trans H; rw [h3]; with_reducible exact H2_) | (have H2_ := (Option.bind_some _ _).symm.trans H; with_reducible exact H2_) | with_reducible exact H | (rw [h3]; exact H) | exact H
            have t6 := mk_ h3; clear h3
            have H' := mk_ H
            clear H
            have d1 : 0 ≤ (a3 : Int) := od_
            have d2 : a3 < (l1.length : Int) := od_
            obtain ⟨n8, m4, a7, a8⟩ := at_T137 s9.out a3 d1 d2; cases m4
            replace a7 := (HB.out.cell (World.block_lt_of_cell? w _ a7)).trans a7
            replace a8 := (HB.out.cell (World.block_lt_of_cell? w _ a8)).trans a8
            replace d1 := eq_true d1; replace d2 := eq_true d2
            go_wp2_with (first | ((with_reducible refine gd_ 8 rfl ?_); (try (refine gate_guard (by rfl) ?_; dsimp only)); refine box_event ?hg (N := 8) ?hd (cs := #[.int .i64 0, .int .i64 0]) (t := 137) ?hr ?_; (case hd => rfl); (case hg => rfl); (case hr => exact hr_); intro h4 hg G6 hbox hb; replace d3 := rb_ d3 hb; have a9 := mk_ (hbox); have h5 := gb_ hg HB; replace HB := bp_ HB hb; have d6 := h5; clear hb hbox hg; have B0 := bc0_ a9; have B1 := bc1_ a9; have B2 := bf_ a9 0; have B3 := bf_ a9 1) | ((with_reducible refine gc_ 76 rfl ?_); refine gl_ (some 26) rfl Try.func76 #[.int .i64 ((rd_T137 l1 a3).f0), .int .i64 (-100), .int .i64 100] ?_; (with_reducible refine (impl_in.calls ((rd_T137 l1 a3).f0) (-100) 100 true _ D6.out).mono ?_); rintro e w' ⟨rfl, ⟨nd, rfl⟩⟩; refine ⟨_, rfl, ?_⟩) | (go_at_call 76; (with_reducible refine (impl_in.calls ((rd_T137 l1 a3).f1) 1 1000 true _ F0.out).mono ?_); rintro e w' ⟨rfl, ⟨nd, rfl⟩⟩) | ((with_reducible refine gate_builtin (b := .append) (xs := #[.tmp 41, .tmp 43]) rfl ?_); (try (refine gate_guard (by rfl) ?_; dsimp only)); at_builtin; refine Kd.R_append (Kd.int .i64) (w0 := w) w.heap.size rfl (.tmp 41) (.tmp 43) 22 3 (.int .i64 0) 8 rfl Try.underlying22 info3 rfl (by decide) (by omega) u6 b6 (wrap64 (b3 + (wrap64 (((rd_T137 l1 a3).f0) * ((rd_T137 l1 a3).f1))))) [.int .i64 (wrap64 (b3 + (wrap64 (((rd_T137 l1 a3).f0) * ((rd_T137 l1 a3).f1)))))] (fun _ => True) (fun _ => False) rfl (by first | (go_simp; done) | (go_simp; rfl)) ?aP (fun _ hk => hk.elim) ?aF ?aO ?aB ?aS ?aL ?_; (case aP => exact rfl); (case aB => exact (by repeat (first | (with_reducible first | exact HB.out | apply below_alloc | apply pw_below_drewN | apply below_drew1 | refine below_set ?_ d6.out) | exact HB.out))); (case aF => exact (fun _ _ => trivial)); (case aO => exact (by (with_reducible repeat (first | apply Kd.R_alloc | apply Kd.R_drewN | apply Kd.R_drew)); exact Kd.R_mono (Kd.R_far (p := ⟨h4, 1, none⟩) (Kd.R_far (p := ⟨h4, 0, none⟩) (Kd.R_types d3.out a9.out (by decide)) (fun _ hk => hk.2) (.int .i64 ((rd_T137 l1 a3).f0))) (fun _ hk => hk.2) (.int .i64 ((rd_T137 l1 a3).f1))) (fun _ hk => trivial))); (case aS => exact (below_size (by repeat (first | (with_reducible first | exact HB.out | apply below_alloc | apply pw_below_drewN | apply below_drew1 | refine below_set ?_ d6.out) | exact HB.out)))); (case aL => have := LMc16.out; omega); intro v147 G7 ho hb hg hat; rw [← t6.out] at ho; replace a9 := mk_ (blk_grown (g := h4) (o := .cells #[.int .i64 ((rd_T137 l1 a3).f0), .int .i64 ((rd_T137 l1 a3).f1)] 137 (0, 0)) (by (with_reducible repeat (first | refine blk_drewN ?_ _ | refine blk_drew ?_ | refine blk_alloc ?_ _)); refine blk_put (cs := #[.int .i64 ((rd_T137 l1 a3).f0), .int .i64 0]) ?_ 1 _ rfl; (with_reducible repeat (first | refine blk_drewN ?_ _ | refine blk_drew ?_ | refine blk_alloc ?_ _)); refine blk_put (cs := #[.int .i64 0, .int .i64 0]) ?_ 0 _ rfl; (with_reducible repeat (first | refine blk_drewN ?_ _ | refine blk_drew ?_ | refine blk_alloc ?_ _)); exact a9.out) hg (Kd.R_ne d3.out a9.out (by decide))); replace HB := mk_ (hb); have t7 := mk_ (ho); clear d3; clear ho hb hg hat))
            go_roundg k2
            case measure => have := E6.out; have := E7.out; omega
            case rel => exact ⟨(wrap64 (b3 + (wrap64 (((rd_T137 l1 a3).f0) * ((rd_T137 l1 a3).f1))))), (t5), (wrap64 (a3 + 1)), rf_, rf_, H', ⟨by have := E6.out; have := E7.out; omega⟩, kw_ t7, ⟨hw_ HB⟩⟩
           ·rw [if_neg A9] at H
            exact absurd H (by simp)
          ·replace A7 := Bool.eq_false_iff.mpr A7; subst A7
           have H1 : (some (([] : List Int), false)) = some (r1, r2) := by rw [if_neg (show ¬ (false = true) by decide)] at H; exact H
           clear H
           have H := H1
           clear H1
           simp only [Option.some.injEq, Prod.mk.injEq] at H
           obtain ⟨rfl, rfl⟩ := H
           have d1 : 0 ≤ (a3 : Int) := od_
           have d2 : a3 < (l1.length : Int) := od_
           obtain ⟨n8, m4, a7, a8⟩ := at_T137 s9.out a3 d1 d2; cases m4
           replace a7 := (HB.out.cell (World.block_lt_of_cell? w _ a7)).trans a7
           replace a8 := (HB.out.cell (World.block_lt_of_cell? w _ a8)).trans a8
           replace d1 := eq_true d1; replace d2 := eq_true d2
           go_wp2_with (first | ((with_reducible refine gd_ 8 rfl ?_); (try (refine gate_guard (by rfl) ?_; dsimp only)); refine box_event ?hg (N := 8) ?hd (cs := #[.int .i64 0, .int .i64 0]) (t := 137) ?hr ?_; (case hd => rfl); (case hg => rfl); (case hr => exact hr_); intro h4 hg G8 hbox hb; replace d3 := rb_ d3 hb; have a9 := mk_ (hbox); have h5 := gb_ hg HB; replace HB := bp_ HB hb; have d6 := h5; clear hb hbox hg; have B4 := bc0_ a9; have B5 := bc1_ a9; have B6 := bf_ a9 0; have B7 := bf_ a9 1) | ((with_reducible refine gc_ 76 rfl ?_); refine gl_ (some 26) rfl Try.func76 #[.int .i64 ((rd_T137 l1 a3).f0), .int .i64 (-100), .int .i64 100] ?_; (with_reducible refine (impl_in.calls ((rd_T137 l1 a3).f0) (-100) 100 true _ D6.out).mono ?_); rintro e w' ⟨rfl, ⟨nd, rfl⟩⟩; refine ⟨_, rfl, ?_⟩) | (go_at_call 76; (with_reducible refine (impl_in.calls ((rd_T137 l1 a3).f1) 1 1000 false _ F0.out).mono ?_); rintro e w' ⟨rfl, ⟨nd, rfl⟩⟩))
           go_ret2
           exact ⟨_, re_, by first | exact Kd.R_nil _ _ _ _ _ | exact Kd.N_nil _ _ _ _ _ | exact Kd.V_nil _ _ _ _ _ | exact Kd.Q_nil _ _ _ _ _ | exact Kd.S_nil _ _ _ _ _, by repeat (first | (with_reducible first | exact HB.out | apply below_alloc | apply pw_below_drewN | apply below_drew1 | refine below_set ?_ d6.out) | exact HB.out)⟩
         ·replace A6 := Bool.eq_false_iff.mpr A6; subst A6
          have H1 : (some (([] : List Int), false)) = some (r1, r2) := by rw [if_neg (show ¬ (false = true) by decide)] at H; exact H
          clear H
          have H := H1
          clear H1
          simp only [Option.some.injEq, Prod.mk.injEq] at H
          obtain ⟨rfl, rfl⟩ := H
          have d1 : 0 ≤ (a3 : Int) := od_
          have d2 : a3 < (l1.length : Int) := od_
          obtain ⟨n8, m4, a7, a8⟩ := at_T137 s9.out a3 d1 d2; cases m4
          replace a7 := (HB.out.cell (World.block_lt_of_cell? w _ a7)).trans a7
          replace a8 := (HB.out.cell (World.block_lt_of_cell? w _ a8)).trans a8
          replace d1 := eq_true d1; replace d2 := eq_true d2
          go_wp2_with (first | ((with_reducible refine gd_ 8 rfl ?_); (try (refine gate_guard (by rfl) ?_; dsimp only)); refine box_event ?hg (N := 8) ?hd (cs := #[.int .i64 0, .int .i64 0]) (t := 137) ?hr ?_; (case hd => rfl); (case hg => rfl); (case hr => exact hr_); intro h4 hg G9 hbox hb; replace d3 := rb_ d3 hb; have a9 := mk_ (hbox); have h5 := gb_ hg HB; replace HB := bp_ HB hb; have d6 := h5; clear hb hbox hg; have B8 := bc0_ a9; have B9 := bc1_ a9; have C0 := bf_ a9 0; have C1 := bf_ a9 1) | ((with_reducible refine gc_ 76 rfl ?_); refine gl_ (some 26) rfl Try.func76 #[.int .i64 ((rd_T137 l1 a3).f0), .int .i64 (-100), .int .i64 100] ?_; (with_reducible refine (impl_in.calls ((rd_T137 l1 a3).f0) (-100) 100 false _ D6.out).mono ?_); rintro e w' ⟨rfl, ⟨nd, rfl⟩⟩; refine ⟨_, rfl, ?_⟩))
          go_ret2
          exact ⟨_, re_, by first | exact Kd.R_nil _ _ _ _ _ | exact Kd.N_nil _ _ _ _ _ | exact Kd.V_nil _ _ _ _ _ | exact Kd.Q_nil _ _ _ _ _ | exact Kd.S_nil _ _ _ _ _, by repeat (first | (with_reducible first | exact HB.out | apply below_alloc | apply pw_below_drewN | apply below_drew1 | refine below_set ?_ d6.out) | exact HB.out)⟩
        ·rw [if_neg A5] at H
         exact absurd H (by simp)
       ·rw [if_neg A3] at H
        exact absurd H (by simp)
      ·rw [if_neg c9] at H; have o1 : decide (a3 < (l1.length : Int)) = false := decide_eq_false c9; clear c9
       simp only [Option.some.injEq, Prod.mk.injEq] at H
       obtain ⟨rfl, rfl⟩ := H; go_wp2
       go_ret2
       exact ⟨_, re_, by (with_reducible repeat (first | apply Kd.R_alloc | apply Kd.R_drewN | apply Kd.R_drew)); exact d3.out, hw_ HB⟩

/-! ### impl_heightAt: function 114 -/
def impl_heightAt.l0 : Nat → Int → Int → List (S137) → Int → Int → Option (Int)
 | 0, _, _, _, _, _ => none
 | k + 1, x0, x2, t8, F1, q1 => if q1 < F1 then (if 0 ≤ q1 then (if q1 < (t8.length : Int) then (impl_heightAt.l0 k (wrap64 (x0 + (wrap64 (((rd_T137 t8 q1).f0) * (mn x2 ((rd_T137 t8 q1).f1)))))) (wrap64 (x2 - (mn x2 ((rd_T137 t8 q1).f1)))) t8 F1 (wrap64 (q1 + 1))) else (none)) else (none)) else (some x0)
def impl_heightAt.f (k : Nat) (a0 : Int) (l1 : List (S137)) (a2 : Int) : Option (Int) := impl_heightAt.l0 k a0 a2 l1 (l1.length : Int) 0
theorem impl_heightAt.mono_l : ∀ k, (∀ y0 y1 y2 y3 y4, LeO (impl_heightAt.l0 k y0 y1 y2 y3 y4) (impl_heightAt.l0 (k + 1) y0 y1 y2 y3 y4))
 | 0 => fun _ _ _ _ _ r h => by simp [impl_heightAt.l0] at h
 | k + 1 => by
  have b8 := impl_heightAt.mono_l k
  ·intro y0 y1 y2 y3 y4
   unfold impl_heightAt.l0
   repeat' first
   | (with_reducible exact b8 _ _ _ _ _)
   | (with_reducible exact LeO.refl _)
   | (with_reducible exact LeO.none _)
   | (with_reducible refine LeO.ite ?_ ?_)
   | (with_reducible refine LeO.bind ?_ (fun _ => ?_))
   | exact b8 _ _ _ _ _
   | exact LeO.none _
   | refine LeO.ite ?_ ?_
   | refine LeO.bind ?_ (fun _ => ?_)
theorem impl_heightAt.mono : ∀ a0 a1 a2 k, LeO (impl_heightAt.f k a0 a1 a2) (impl_heightAt.f (k + 1) a0 a1 a2) := by
 intro a0 a1 a2 k
 have b8 := impl_heightAt.mono_l k
 unfold impl_heightAt.f
 repeat' first
   | (with_reducible exact b8 _ _ _ _ _)
   | (with_reducible exact LeO.refl _)
   | (with_reducible exact LeO.none _)
   | (with_reducible refine LeO.ite ?_ ?_)
   | (with_reducible refine LeO.bind ?_ (fun _ => ?_))
   | exact b8 _ _ _ _ _
   | exact LeO.none _
   | refine LeO.ite ?_ ?_
   | refine LeO.bind ?_ (fun _ => ?_)
set_option maxHeartbeats 8000000 in
set_option maxRecDepth 100000 in
theorem impl_heightAt.calls (k : Nat) (a0 : Int) (A1 : Option Addr) (c1 : Nat) (l1 : List (S137)) (a2 : Int) (r : Int) (w : World) (hr1 : Kd.C k137 w A1 l1.length l1) (hc1 : l1.length ≤ c1) (h : impl_heightAt.f k a0 l1 a2 = some r) :
  Calls Try.prog 114 #[.int .i64 a0, .slice A1 l1.length c1, .int .i64 a2] w fun e w' => e = .returned (.int .i64 r) ∧ Below w.heap.size w w' := by
 have n1 := Try.underlying137
 have s9 := mk_ hr1; have G4 := mk_ hc1; clear hr1 hc1; have HB := mk_ (Below.refl w.heap.size w)
 have H : (impl_heightAt.l0 k a0 a2 l1 (l1.length : Int) 0) = some r := h
 clear h
 have H' := mk_ H
 clear H
 go_enter Try.func114, Try.ntmps114
 go_wp2
 go_loopg [0, 2, 12] k (fun kq v0 v2 v12 w' => ∃ (m5 : Int) (h6 : Int) (a5 : Int), v0 = .int .i64 m5 ∧ v2 = .int .i64 h6 ∧ v12 = .int .i64 a5 ∧ Aside0 (impl_heightAt.l0 kq m5 h6 l1 (l1.length : Int) a5 = some r) ∧ Aside0 (kq ≤ k) ∧ Aside0 (Below w.heap.size w w'))
 case atStart => exact ⟨(a0), (a2), (0), rf_, rf_, rf_, H', ⟨Nat.le_refl _⟩, ⟨hw_ HB⟩⟩
 case round =>
  clear H'; (try clear c1)
  obtain ⟨m5, h6, a5, rfl, rfl, rfl, HA, n3, HB⟩ := hrel
  cases gk with
  | zero => exact absurd HA.out (by simp [impl_heightAt.l0])
  | succ k1 =>
   have H := HA.out; clear HA
   simp only [impl_heightAt.l0] at H
   by_cases c4 : a5 < (l1.length : Int)
   ·rw [if_pos c4] at H; have p9 : decide (a5 < (l1.length : Int)) = true := decide_eq_true c4; clear c4; by_cases c5 : 0 ≤ a5
    ·rw [if_pos c5] at H; have G5 : decide (0 ≤ a5) = true := decide_eq_true c5; clear c5; by_cases c6 : a5 < (l1.length : Int)
     ·rw [if_pos c6] at H; have m8 : decide (a5 < (l1.length : Int)) = true := decide_eq_true c6; clear c6
      obtain ⟨t9, m6⟩ : ∃ j_ : Int, (mn h6 ((rd_T137 l1 a5).f1)) = j_ := ⟨_, rfl⟩
      replace H : (impl_heightAt.l0 k1 (wrap64 (m5 + (wrap64 (((rd_T137 l1 a5).f0) * (t9))))) (wrap64 (h6 - (t9))) l1 (l1.length : Int) (wrap64 (a5 + 1))) = some r := by first | (rw [m6] at H; exact H) | (simp only [m6] at H ⊢; exact H)
      have F2 : (if ((rd_T137 l1 a5).f1) < h6 then ((rd_T137 l1 a5).f1) else h6) = t9 := m6
      have H' := mk_ H
      clear H
      have q2 : 0 ≤ (a5 : Int) := od_
      have q3 : a5 < (l1.length : Int) := od_
      obtain ⟨F3, D7, g2, g3⟩ := at_T137 s9.out a5 q2 q3; cases D7
      replace g2 := (HB.out.cell (World.block_lt_of_cell? w _ g2)).trans g2
      replace g3 := (HB.out.cell (World.block_lt_of_cell? w _ g3)).trans g3
      replace q2 := eq_true q2; replace q3 := eq_true q3
      go_wp2_with (first | ((with_reducible refine gd_ 8 rfl ?_); refine box_event ?hg (N := 8) ?hd (cs := #[.int .i64 0, .int .i64 0]) (t := 137) ?hr ?_; (case hd => rfl); (case hg => rfl); (case hr => exact hr_); intro F4 hg w8 hbox hb; have j5 := mk_ (hbox); have y5 := gb_ hg HB; replace HB := bp_ HB hb; have y6 := y5; clear hb hbox hg; have p2 := bc0_ j5; have p3 := bc1_ j5; have p4 := bf_ j5 0; have p5 := bf_ j5 1))
      go_roundg k1
      case measure => have := n3.out; omega
      case rel => exact ⟨(wrap64 (m5 + (wrap64 (((rd_T137 l1 a5).f0) * (t9))))), (wrap64 (h6 - (t9))), (wrap64 (a5 + 1)), (by first | rfl | (simp; done) | (simp only [← m6] <;> (first | rfl | simp)) | (simp [*]; done)), (by first | rfl | (simp; done) | (simp only [← m6] <;> (first | rfl | simp)) | (simp [*]; done)), rf_, H', ⟨by have := n3.out; omega⟩, ⟨by repeat (first | (with_reducible first | exact HB.out | apply below_alloc | apply pw_below_drewN | apply below_drew1 | refine below_set ?_ y6.out) | exact HB.out)⟩⟩
     ·rw [if_neg c6] at H
      exact absurd H (by simp)
    ·rw [if_neg c5] at H
     exact absurd H (by simp)
   ·rw [if_neg c4] at H; have p9 : decide (a5 < (l1.length : Int)) = false := decide_eq_false c4; clear c4; obtain rfl := Option.some.inj H; go_wp2; go_ret
    exact ⟨re_, hw_ HB⟩

end Go.Proofs.Ytnphbpkpjinddaa.QFnExactClears
-- squeezed
