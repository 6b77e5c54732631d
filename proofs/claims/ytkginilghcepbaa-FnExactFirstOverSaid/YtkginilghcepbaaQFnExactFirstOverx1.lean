/- Lean functions that tell what the Go functions used by one law answer, and for each a proof that the Go code comes to just these answers; no condition. Printed by this session's own program over the kit's printer. -/
import Derived.Test.YtkginilghcepbaaWSq
import Derived.Test.YtkginilghcepbaaQFnExactFirstOverx0
namespace Go.Proofs.Ytkginilghcepbaa.QFnExactFirstOver
open Go.RowKit Go.Proofs.YtkginilghcepbaaW.PrintWords Go.Proofs.YtkginilghcepbaaW.PrintLast Go.Proofs.YtkginilghcepbaaW.PrintMore
attribute [local go_sem] max2_int min2_int max_two min_two max_three min_three max_four min_four   -- for this text's walks alone
attribute [local go_sem high] go_eql go_neq go_lss go_leq go_gtr go_geq go_store   -- for this text's walks alone
set_option linter.unusedVariables false
set_option linter.unusedSimpArgs false

/-! ### impl_FirstOver: function 29, with what it hands to slices.IndexFunc (74) and its literal (75); written by hand -/
def impl_FirstOver.l0 : Nat → List (S60) → Fl → Int → Option (Int)
 | 0, _, _, _ => none
 | k + 1, l, a, x => if x < (l.length : Int) then (if 0 ≤ x then (if (fcmp .gtr .f64 ((rd_T60 l x).f0) a) = true then (some x) else (impl_FirstOver.l0 k l a (wrap64 (x + 1)))) else (none)) else (some (-1))
def impl_FirstOver.f (k : Nat) (l0 : List (S60)) (a1 : Fl) : Option (Int) := impl_FirstOver.l0 k l0 a1 0
theorem impl_FirstOver.mono_l : ∀ k, (∀ y0 y1 y2, LeO (impl_FirstOver.l0 k y0 y1 y2) (impl_FirstOver.l0 (k + 1) y0 y1 y2))
 | 0 => fun _ _ _ r h => by simp [impl_FirstOver.l0] at h
 | k + 1 => by
  have g9 := impl_FirstOver.mono_l k
  ·intro y0 y1 y2
   unfold impl_FirstOver.l0
   repeat' first
   | (with_reducible exact g9 _ _ _)
   | (with_reducible exact LeO.refl _)
   | (with_reducible exact LeO.none _)
   | (with_reducible refine LeO.ite ?_ ?_)
   | exact g9 _ _ _
   | exact LeO.none _
   | refine LeO.ite ?_ ?_
theorem impl_FirstOver.mono : ∀ a0 a1 k, LeO (impl_FirstOver.f k a0 a1) (impl_FirstOver.f (k + 1) a0 a1) := fun a0 a1 k => impl_FirstOver.mono_l k a0 a1 0
set_option maxHeartbeats 8000000 in
set_option maxRecDepth 100000 in
theorem impl_FirstOver.lit (b0 b1 b2 b3 bs : Nat) (m0 a : Fl) (g : Nat) (w : World) (h0 : cn .f64 b0 = m0) (ha : cn .f64 bs = a) (hg : Aside0 (w.heap[g]? = some (.cells #[.float .f64 bs] 36 (0, 0)))) :
  Calls Try.prog 75 #[.agg #[.float .f64 b0, .float .f64 b1, .float .f64 b2, .float .f64 b3], .pointer (some ⟨g, 0, none⟩)] w fun e w' => e = .returned (.bool (fcmp .gtr .f64 m0 a)) ∧ Below w.heap.size w w' := by
 have huM := Try.underlying60
 have HB := mk_ (Below.refl w.heap.size w)
 go_enter Try.func75, Try.ntmps75
 go_wp2_with (first | ((with_reducible refine gd_ 2 rfl ?_); refine box_event ?hg (N := 2) ?hd (cs := #[.float .f64 b0, .float .f64 b1, .float .f64 b2, .float .f64 b3]) (t := 60) ?hr ?_; (case hd => rfl); (case hg => rfl); (case hr => exact hr_); intro gb hgb w1 hbox hb; have BK := mk_ hbox; have HG := bl_ hg hb; replace HB := bp_ HB hb; clear hbox hgb hb; have c0 := bc0_ BK; have f0 := bf_ BK 0; have cg := bc0_ HG; have fg := bf_ HG 0))
 go_ret
 exact ⟨re_, hw_ HB⟩
set_option maxHeartbeats 8000000 in
set_option maxRecDepth 100000 in
theorem impl_FirstOver.index (k : Nat) (A0 : Option Addr) (c0 : Nat) (l0 : List (S60)) (bs : Nat) (a : Fl) (g : Nat) (r : Int) (w : World) (hr0 : Kd.C k60 w A0 l0.length l0) (hc0 : l0.length ≤ c0) (ha : cn .f64 bs = a) (hg : Aside0 (w.heap[g]? = some (.cells #[.float .f64 bs] 36 (0, 0)))) (h : impl_FirstOver.f k l0 a = some r) :
  Calls Try.prog 74 #[.slice A0 l0.length c0, .func (.func 75) #[] #[.pointer (some ⟨g, 0, none⟩)]] w fun e w' => e = .returned (.int .i64 r) ∧ Below w.heap.size w w' := by
 have huM := Try.underlying60
 have m9 := mk_ hr0; have q0 := mk_ hc0; have HA_ := mk_ ha; clear hr0 hc0 ha; have HB := mk_ (Below.refl w.heap.size w)
 have H : (impl_FirstOver.l0 k l0 a 0) = some r := h
 clear h
 have H' := mk_ H
 clear H
 go_enter Try.func74, Try.ntmps74
 go_wp2
 go_loopg [8] k (fun kq v8 w' => ∃ (g3 : Int), v8 = .int .i64 g3 ∧ Aside0 (impl_FirstOver.l0 kq l0 a g3 = some r) ∧ Aside0 (kq ≤ k) ∧ Aside0 (Below w.heap.size w w'))
 case atStart => exact ⟨(0), rf_, H', ⟨Nat.le_refl _⟩, ⟨hw_ HB⟩⟩
 case round => as_aux_lemma =>
  clear H'
  obtain ⟨g3, rfl, HA, o2, HB⟩ := hrel
  cases gk with
  | zero => exact absurd HA.out (by simp [impl_FirstOver.l0])
  | succ k1 =>
   have H := HA.out; clear HA
   simp only [impl_FirstOver.l0] at H
   by_cases c3 : g3 < (l0.length : Int)
   ·rw [if_pos c3] at H; have l4 : decide (g3 < (l0.length : Int)) = true := decide_eq_true c3; clear c3; by_cases c4 : 0 ≤ g3
    ·rw [if_pos c4] at H; have j5 : decide (0 ≤ g3) = true := decide_eq_true c4; clear c4
     have o5 : 0 ≤ (g3 : Int) := od_
     have o6 : g3 < (l0.length : Int) := od_
     obtain ⟨ad, b0, b1, b2, b3, I3, I4, I5, I6, I7, hF0, hF1, hF2, hF3⟩ := at_T60 m9.out g3 o5 o6; have HF0 := mk_ hF0; clear hF0 hF1 hF2 hF3; cases I3
     replace I4 := (HB.out.cell (World.block_lt_of_cell? w _ I4)).trans I4
     replace I5 := (HB.out.cell (World.block_lt_of_cell? w _ I5)).trans I5
     replace I6 := (HB.out.cell (World.block_lt_of_cell? w _ I6)).trans I6
     replace I7 := (HB.out.cell (World.block_lt_of_cell? w _ I7)).trans I7
     replace o5 := eq_true o5; replace o6 := eq_true o6; have HG := mk_ ((HB.out.block g (blk_lt hg.out)).trans hg.out); by_cases c7 : (fcmp .gtr .f64 ((rd_T60 l0 g3).f0) a) = true
     ·rw [if_pos c7] at H; obtain rfl := Option.some.inj H; have C7 := mk_ c7; clear c7
      go_wp2_with (first | (go_at_call 75; (with_reducible refine (impl_FirstOver.lit b0 b1 b2 b3 bs ((rd_T60 l0 g3).f0) a g _ HF0.out HA_.out HG).mono ?_); rintro e w8 ⟨rfl, hb⟩; rw [C7.out]; replace HB := bp_ HB hb; clear hb))
      go_ret
      exact ⟨re_, hw_ HB⟩
     ·rw [if_neg c7] at H; have C7 := mk_ (Bool.eq_false_iff.mpr c7); clear c7
      have H' := mk_ H
      clear H
      go_wp2_with (first | (go_at_call 75; (with_reducible refine (impl_FirstOver.lit b0 b1 b2 b3 bs ((rd_T60 l0 g3).f0) a g _ HF0.out HA_.out HG).mono ?_); rintro e w8 ⟨rfl, hb⟩; rw [C7.out]; replace HB := bp_ HB hb; clear hb))
      go_roundg k1
      case measure => have := o2.out; omega
      case rel => exact ⟨(wrap64 (g3 + 1)), rf_, H', ⟨by have := o2.out; omega⟩, ⟨hw_ HB⟩⟩
    ·rw [if_neg c4] at H
     exact absurd H (by simp)
   ·rw [if_neg c3] at H; have l4 : decide (g3 < (l0.length : Int)) = false := decide_eq_false c3; clear c3; obtain rfl := Option.some.inj H; go_wp2; go_ret
    exact ⟨re_, hw_ HB⟩
set_option maxHeartbeats 8000000 in
set_option maxRecDepth 100000 in
theorem impl_FirstOver.calls (k : Nat) (A0 : Option Addr) (c0 : Nat) (l0 : List (S60)) (b_a1 : Nat) (a1 : Fl) (r : Int) (w : World) (hr0 : Kd.C k60 w A0 l0.length l0) (hc0 : l0.length ≤ c0) (hF_a1 : cn .f64 b_a1 = a1) (h : impl_FirstOver.f k l0 a1 = some r) :
  Calls Try.prog 29 #[.slice A0 l0.length c0, .float .f64 b_a1] w fun e w' => e = .returned (.int .i64 r) ∧ Below w.heap.size w w' := by
 have hmf : ∀ (fn : Fn) (first cap : Array Value) (w : World), (Instr.makeFunc fn first cap).run Try.prog w = .ok (.func fn first cap) w := fun _ _ _ _ => rfl
 have m9 := mk_ hr0; have q0 := mk_ hc0; have HF := mk_ hF_a1; have HH := mk_ h; clear hr0 hc0 hF_a1 h; have HB := mk_ (Below.refl w.heap.size w)
 go_enter Try.func29, Try.ntmps29
 go_wp2_with (first | ((with_reducible refine gd_ 3 rfl ?_); refine box_event ?hg (N := 3) ?hd (cs := #[.float .f64 b_a1]) (t := 36) ?hr ?_; (case hd => rfl); (case hg => rfl); (case hr => exact hr_); intro gb hgb w1 hbox hb; have BK := mk_ hbox; have P0 := mk_ (Kd.C_below m9.out hb); replace HB := bp_ HB hb; clear hbox hgb hb) | (go_at_call 74; (with_reducible refine (impl_FirstOver.index k _ _ l0 b_a1 a1 gb r _ P0.out q0.out HF.out BK HH.out).mono ?_); rintro e w2 ⟨rfl, hb⟩; replace HB := bp_ HB hb; clear hb))
 go_ret
 exact ⟨re_, hw_ HB⟩

/-! ### laws_szMotionS: function 33 -/
def laws_szMotionS.f (l0 : List (S118)) (a1 : Int) : Option (Int) := if (wrap64 (a1 - (l0.length : Int))) < 0 then (some (-1)) else (some (wrap64 (a1 - (l0.length : Int))))
set_option maxHeartbeats 8000000 in
set_option maxRecDepth 100000 in
theorem laws_szMotionS.calls (A0 : Option Addr) (c0 : Nat) (l0 : List (S118)) (a1 : Int) (r : Int) (w : World) (hr0 : Kd.C k118 w A0 l0.length l0) (hc0 : l0.length ≤ c0) (h : laws_szMotionS.f l0 a1 = some r) :
  Calls Try.prog 33 #[.slice A0 l0.length c0, .int .i64 a1] w fun e w' => e = .returned (.int .i64 r) ∧ Drawn0 w w' := by
 have m9 := mk_ hr0; have q0 := mk_ hc0; clear hr0 hc0
 have H : (if (wrap64 (a1 - (l0.length : Int))) < 0 then (some (-1)) else (some (wrap64 (a1 - (l0.length : Int))))) = some r := h
 clear h; by_cases c3 : (wrap64 (a1 - (l0.length : Int))) < 0
 ·rw [if_pos c3] at H; have l4 : decide ((wrap64 (a1 - (l0.length : Int))) < 0) = true := decide_eq_true c3; clear c3; obtain rfl := Option.some.inj H
  go_enter Try.func33, Try.ntmps33
  go_wp2; go_ret
  exact ⟨by first | rfl | (simp; done) | (simp [*]; done), by repeat (first | exact Drawn0.refl _ | apply Drawn0.step)⟩
 ·rw [if_neg c3] at H; have l4 : decide ((wrap64 (a1 - (l0.length : Int))) < 0) = false := decide_eq_false c3; clear c3; obtain rfl := Option.some.inj H
  go_enter Try.func33, Try.ntmps33
  go_wp2; go_ret
  exact ⟨by first | rfl | (simp; done) | (simp [*]; done), by repeat (first | exact Drawn0.refl _ | apply Drawn0.step)⟩

/-! ### spec_FirstOver: function 34 -/
def spec_FirstOver.l0 : Nat → List (S60) → Fl → Int → Option (Int)
 | 0, _, _, _ => none
 | k + 1, x0, x1, x5 => if x5 < (x0.length : Int) then (if 0 ≤ x5 then (if (fcmp .gtr .f64 ((rd_T60 x0 x5).f0) x1) = true then (some x5) else (spec_FirstOver.l0 k x0 x1 (wrap64 (x5 + 1)))) else (none)) else (some (-1))
def spec_FirstOver.f (k : Nat) (l0 : List (S60)) (a1 : Fl) : Option (Int) := spec_FirstOver.l0 k l0 a1 0
theorem spec_FirstOver.mono_l : ∀ k, (∀ y0 y1 y2, LeO (spec_FirstOver.l0 k y0 y1 y2) (spec_FirstOver.l0 (k + 1) y0 y1 y2))
 | 0 => fun _ _ _ r h => by simp [spec_FirstOver.l0] at h
 | k + 1 => by
  have g9 := spec_FirstOver.mono_l k
  ·intro y0 y1 y2
   unfold spec_FirstOver.l0
   repeat' first
   | (with_reducible exact g9 _ _ _)
   | (with_reducible exact LeO.refl _)
   | (with_reducible exact LeO.none _)
   | (with_reducible refine LeO.ite ?_ ?_)
   | (with_reducible refine LeO.bind ?_ (fun _ => ?_))
   | exact g9 _ _ _
   | exact LeO.none _
   | refine LeO.ite ?_ ?_
   | refine LeO.bind ?_ (fun _ => ?_)
theorem spec_FirstOver.mono : ∀ a0 a1 k, LeO (spec_FirstOver.f k a0 a1) (spec_FirstOver.f (k + 1) a0 a1) := by
 intro a0 a1 k
 have g9 := spec_FirstOver.mono_l k
 unfold spec_FirstOver.f
 repeat' first
   | (with_reducible exact g9 _ _ _)
   | (with_reducible exact LeO.refl _)
   | (with_reducible exact LeO.none _)
   | (with_reducible refine LeO.ite ?_ ?_)
   | (with_reducible refine LeO.bind ?_ (fun _ => ?_))
   | exact g9 _ _ _
   | exact LeO.none _
   | refine LeO.ite ?_ ?_
   | refine LeO.bind ?_ (fun _ => ?_)
set_option maxHeartbeats 8000000 in
set_option maxRecDepth 100000 in
theorem spec_FirstOver.calls (k : Nat) (A0 : Option Addr) (c0 : Nat) (l0 : List (S60)) (b_a1 : Nat) (a1 : Fl) (r : Int) (w : World) (hr0 : Kd.C k60 w A0 l0.length l0) (hc0 : l0.length ≤ c0) (hF_a1 : cn .f64 b_a1 = a1) (h : spec_FirstOver.f k l0 a1 = some r) :
  Calls Try.prog 34 #[.slice A0 l0.length c0, .float .f64 b_a1] w fun e w' => e = .returned (.int .i64 r) ∧ Drawn0 w w' := by
 have m9 := mk_ hr0; have q0 := mk_ hc0; clear hr0 hc0
 have H : (spec_FirstOver.l0 k l0 a1 0) = some r := h
 clear h
 have H' := mk_ H
 clear H
 go_enter Try.func34, Try.ntmps34
 go_wp2
 go_loopg [5] k (fun kq v5 w' => ∃ (c1 : Int), v5 = .int .i64 c1 ∧ Aside0 (spec_FirstOver.l0 kq l0 a1 c1 = some r) ∧ Aside0 (kq ≤ k) ∧ Drawn0 w w')
 case atStart => exact ⟨(0), rf_, H', ⟨Nat.le_refl _⟩, by repeat (first | exact Drawn0.refl _ | apply Drawn0.step)⟩
 case round => as_aux_lemma =>
  clear H'
  obtain ⟨c1, rfl, HA, o2, ⟨m1, rfl⟩⟩ := hrel
  cases gk with
  | zero => exact absurd HA.out (by simp [spec_FirstOver.l0])
  | succ k1 =>
   have H := HA.out; clear HA
   simp only [spec_FirstOver.l0] at H
   by_cases c3 : c1 < (l0.length : Int)
   ·rw [if_pos c3] at H; have l4 : decide (c1 < (l0.length : Int)) = true := decide_eq_true c3; clear c3; by_cases c4 : 0 ≤ c1
    ·rw [if_pos c4] at H; have j5 : decide (0 ≤ c1) = true := decide_eq_true c4; clear c4
     obtain ⟨fr101_0, d4⟩ : ∃ y_ : Fl, y_ = ((rd_T60 l0 c1).f0) := ⟨_, rfl⟩
     replace H : (if (fcmp .gtr .f64 fr101_0 a1) = true then (some c1) else (spec_FirstOver.l0 k1 l0 a1 (wrap64 (c1 + 1)))) = some r := by first | (rw [d4]; with_reducible exact H) | (have H2_ := (Option.bind_some _ _).symm.trans H; rw [d4]; with_reducible exact H2_) | (have H2_ := (Option.bind_some _ _).symm.trans H; with_reducible exact H2_) | with_reducible exact H | (rw [d4]; exact H) | exact H
     have Nfr101_0 := mk_ d4; clear d4
     obtain ⟨fr101_1, d5⟩ : ∃ y_ : Fl, y_ = ((rd_T60 l0 c1).f1) := ⟨_, rfl⟩
     replace H : (if (fcmp .gtr .f64 fr101_0 a1) = true then (some c1) else (spec_FirstOver.l0 k1 l0 a1 (wrap64 (c1 + 1)))) = some r := by first | (rw [d5]; with_reducible exact H) | (have H2_ := (Option.bind_some _ _).symm.trans H; rw [d5]; with_reducible exact H2_) | (have H2_ := (Option.bind_some _ _).symm.trans H; with_reducible exact H2_) | with_reducible exact H | (rw [d5]; exact H) | exact H
     have Nfr101_1 := mk_ d5; clear d5
     obtain ⟨fr101_2, d6⟩ : ∃ y_ : Fl, y_ = ((rd_T60 l0 c1).f2) := ⟨_, rfl⟩
     replace H : (if (fcmp .gtr .f64 fr101_0 a1) = true then (some c1) else (spec_FirstOver.l0 k1 l0 a1 (wrap64 (c1 + 1)))) = some r := by first | (rw [d6]; with_reducible exact H) | (have H2_ := (Option.bind_some _ _).symm.trans H; rw [d6]; with_reducible exact H2_) | (have H2_ := (Option.bind_some _ _).symm.trans H; with_reducible exact H2_) | with_reducible exact H | (rw [d6]; exact H) | exact H
     have Nfr101_2 := mk_ d6; clear d6
     obtain ⟨fr101_3, d7⟩ : ∃ y_ : Fl, y_ = ((rd_T60 l0 c1).f3) := ⟨_, rfl⟩
     replace H : (if (fcmp .gtr .f64 fr101_0 a1) = true then (some c1) else (spec_FirstOver.l0 k1 l0 a1 (wrap64 (c1 + 1)))) = some r := by first | (rw [d7]; with_reducible exact H) | (have H2_ := (Option.bind_some _ _).symm.trans H; rw [d7]; with_reducible exact H2_) | (have H2_ := (Option.bind_some _ _).symm.trans H; with_reducible exact H2_) | with_reducible exact H | (rw [d7]; exact H) | exact H
     have Nfr101_3 := mk_ d7; clear d7; by_cases c5 : (fcmp .gtr .f64 fr101_0 a1) = true
     ·rw [if_pos c5] at H
      have I8 : (fcmp .gtr .f64 fr101_0 a1) = true := c5
      clear c5; obtain rfl := Option.some.inj H
      have j6 : 0 ≤ (c1 : Int) := od_
      have j7 : c1 < (l0.length : Int) := od_
      obtain ⟨q1, b_fr101_0, b_fr101_1, b_fr101_2, b_fr101_3, o7, n0, n1, n2, n3, hF101_0, hF101_1, hF101_2, hF101_3⟩ := at_T60 m9.out c1 j6 j7
      have hF_fr101_0 := hF101_0.trans Nfr101_0.out.symm
      clear hF101_0
      have hF_fr101_1 := hF101_1.trans Nfr101_1.out.symm
      clear hF101_1
      have hF_fr101_2 := hF101_2.trans Nfr101_2.out.symm
      clear hF101_2
      have hF_fr101_3 := hF101_3.trans Nfr101_3.out.symm
      clear hF101_3; cases o7; replace j6 := eq_true j6; replace j7 := eq_true j7; go_wp2; go_ret
      exact ⟨by first | rfl | (simp; done) | (simp [*]; done), by repeat (first | exact Drawn0.refl _ | apply Drawn0.step)⟩
     ·rw [if_neg c5] at H
      have I8 : (fcmp .gtr .f64 fr101_0 a1) = false := by simpa using c5
      clear c5
      have H' := mk_ H
      clear H
      have j6 : 0 ≤ (c1 : Int) := od_
      have j7 : c1 < (l0.length : Int) := od_
      obtain ⟨q1, b_fr101_0, b_fr101_1, b_fr101_2, b_fr101_3, o7, n0, n1, n2, n3, hF101_0, hF101_1, hF101_2, hF101_3⟩ := at_T60 m9.out c1 j6 j7
      have hF_fr101_0 := hF101_0.trans Nfr101_0.out.symm
      clear hF101_0
      have hF_fr101_1 := hF101_1.trans Nfr101_1.out.symm
      clear hF101_1
      have hF_fr101_2 := hF101_2.trans Nfr101_2.out.symm
      clear hF101_2
      have hF_fr101_3 := hF101_3.trans Nfr101_3.out.symm
      clear hF101_3; cases o7; replace j6 := eq_true j6; replace j7 := eq_true j7; go_wp2; go_roundg k1
      case measure => have := o2.out; omega
      case rel => exact ⟨(wrap64 (c1 + 1)), rf_, H', ⟨by have := o2.out; omega⟩, by repeat (first | exact Drawn0.refl _ | apply Drawn0.step)⟩
    ·rw [if_neg c4] at H
     exact absurd H (by simp)
   ·rw [if_neg c3] at H; have l4 : decide (c1 < (l0.length : Int)) = false := decide_eq_false c3; clear c3; obtain rfl := Option.some.inj H; go_wp2; go_ret
    exact ⟨by first | rfl | (simp; done) | (simp [*]; done), by repeat (first | exact Drawn0.refl _ | apply Drawn0.step)⟩

/-! ### laws_toMotion: function 77 -/
def laws_toMotion.f (a0_0 : Fl) (a0_1 : Fl) (a0_2 : Fl) (a0_3 : Fl) : Option (Fl × Fl × Fl × Fl) := some (a0_0, a0_1, a0_2, a0_3)
set_option maxHeartbeats 8000000 in
set_option maxRecDepth 100000 in
theorem laws_toMotion.calls (b_a0_0 : Nat) (a0_0 : Fl) (b_a0_1 : Nat) (a0_1 : Fl) (b_a0_2 : Nat) (a0_2 : Fl) (b_a0_3 : Nat) (a0_3 : Fl) (r1 : Fl) (r2 : Fl) (r3 : Fl) (r4 : Fl) (w : World) (hF_a0_0 : cn .f64 b_a0_0 = a0_0) (hF_a0_1 : cn .f64 b_a0_1 = a0_1) (hF_a0_2 : cn .f64 b_a0_2 = a0_2) (hF_a0_3 : cn .f64 b_a0_3 = a0_3) (h : laws_toMotion.f a0_0 a0_1 a0_2 a0_3 = some (r1, r2, r3, r4)) :
  Calls Try.prog 77 #[.agg #[.float .f64 b_a0_0, .float .f64 b_a0_1, .float .f64 b_a0_2, .float .f64 b_a0_3]] w fun e w' => ∃ b_r1 b_r2 b_r3 b_r4 : Nat, e = .returned (.agg #[.float .f64 b_r1, .float .f64 b_r2, .float .f64 b_r3, .float .f64 b_r4]) ∧ cn .f64 b_r1 = r1 ∧ cn .f64 b_r2 = r2 ∧ cn .f64 b_r3 = r3 ∧ cn .f64 b_r4 = r4 ∧ Below w.heap.size w w' := by
 have q2 := Try.underlying118
 have q3 := Try.underlying60
 have HB := mk_ (Below.refl w.heap.size w)
 have H : (some (a0_0, a0_1, a0_2, a0_3)) = some (r1, r2, r3, r4) := h
 clear h
 simp only [Option.some.injEq, Prod.mk.injEq] at H
 obtain ⟨rfl, rfl, rfl, rfl⟩ := H
 go_enter Try.func77, Try.ntmps77
 go_wp2_with (first | ((with_reducible refine gd_ 1 rfl ?_); refine box_event ?hg (N := 1) ?hd (cs := #[.float .f64 b_a0_0, .float .f64 b_a0_1, .float .f64 b_a0_2, .float .f64 b_a0_3]) (t := 118) ?hr ?_; (case hd => rfl); (case hg => rfl); (case hr => exact hr_); intro N1 hg w2 hbox hb; have d1 := mk_ (hbox); have q4 := gb_ hg HB; replace HB := bp_ HB hb; have N2 := q4; clear hb hbox hg) | ((with_reducible refine gd_ 2 rfl ?_); refine box_event ?hg (N := 2) ?hd (cs := #[.float .f64 0, .float .f64 0, .float .f64 0, .float .f64 0]) (t := 60) ?hr ?_; (case hd => rfl); (case hg => rfl); (case hr => exact hr_); intro q5 hg w3 hbox hb; have d3 := mk_ (hbox); have q6 := gb_ hg HB; replace HB := bp_ HB hb; have q7 := q6; have h2 := nb_ hg d1; replace d1 := bl_ d1 hb; have l5 := ns_ h2; clear hb hbox hg) | ((with_reducible refine gd_ 3 rfl ?_); refine box_event ?hg (N := 3) ?hd (cs := #[.float .f64 0, .float .f64 0, .float .f64 0, .float .f64 0]) (t := 60) ?hr ?_; (case hd => rfl); (case hg => rfl); (case hr => exact hr_); intro N3 hg w4 hbox hb; have g7 := mk_ (hbox); have q8 := gb_ hg HB; replace HB := bp_ HB hb; have q9 := q8; have h3 := nb_ hg d1; replace d1 := bl_ d1 hb; have l6 := ns_ h3; have d0 := nb_ hg d3; replace d3 := bl_ d3 hb; have l7 := ns_ d0; clear hb hbox hg; have P1 := h2.out; have P2 := l5.out; have P3 := h3.out; have P4 := l6.out; have I9 := bc0_ d1; have J0 := bc1_ d1; have J1 := bc2_ d1; have J2 := bc3_ d1; have J3 := bf_ d1 0; have J4 := bf_ d1 1; have J5 := bf_ d1 2; have J6 := bf_ d1 3; have P5 := l7.out; have P6 := d0.out; have J7 := bc0_ g7; have J8 := bc1_ g7; have J9 := bc2_ g7; have L0 := bc3_ g7; have L1 := bf_ g7 0; have L2 := bf_ g7 1; have L3 := bf_ g7 2; have L4 := bf_ g7 3; have t4 := bc0_ d3; have t5 := bc1_ d3; have t6 := bc2_ d3; have t7 := bc3_ d3; have t8 := bf_ d3 0; have t9 := bf_ d3 1; have y3 := bf_ d3 2; have y4 := bf_ d3 3))
 refine bodyPost_ret (results_cell_row rfl _ _ q5 60 #[.float .f64 b_a0_0, .float .f64 b_a0_1, .float .f64 b_a0_2, .float .f64 b_a0_3] (0, 0) _ rfl (by (with_reducible repeat (first | refine blk_drewN ?_ _ | refine blk_drew ?_ | refine blk_alloc ?_ _)); refine blk_put (cs := #[.float .f64 b_a0_0, .float .f64 b_a0_1, .float .f64 b_a0_2, .float .f64 0]) ?_ 3 _ rfl; (with_reducible repeat (first | refine blk_drewN ?_ _ | refine blk_drew ?_ | refine blk_alloc ?_ _)); refine blk_put (cs := #[.float .f64 b_a0_0, .float .f64 b_a0_1, .float .f64 0, .float .f64 0]) ?_ 2 _ rfl; (with_reducible repeat (first | refine blk_drewN ?_ _ | refine blk_drew ?_ | refine blk_alloc ?_ _)); refine blk_put (cs := #[.float .f64 b_a0_0, .float .f64 0, .float .f64 0, .float .f64 0]) ?_ 1 _ rfl; (with_reducible repeat (first | refine blk_drewN ?_ _ | refine blk_drew ?_ | refine blk_alloc ?_ _)); refine blk_put (cs := #[.float .f64 0, .float .f64 0, .float .f64 0, .float .f64 0]) ?_ 0 _ rfl; (with_reducible repeat (first | refine blk_drewN ?_ _ | refine blk_drew ?_ | refine blk_alloc ?_ _)); refine blk_far ?_ d0.out _; (with_reducible repeat (first | refine blk_drewN ?_ _ | refine blk_drew ?_ | refine blk_alloc ?_ _)); refine blk_far ?_ d0.out _; (with_reducible repeat (first | refine blk_drewN ?_ _ | refine blk_drew ?_ | refine blk_alloc ?_ _)); refine blk_far ?_ d0.out _; (with_reducible repeat (first | refine blk_drewN ?_ _ | refine blk_drew ?_ | refine blk_alloc ?_ _)); refine blk_far ?_ d0.out _; (with_reducible repeat (first | refine blk_drewN ?_ _ | refine blk_drew ?_ | refine blk_alloc ?_ _)); exact d3.out) Try.underlying60 rfl (by kernel_rfl)) rfl ?_
 exact ⟨b_a0_0, b_a0_1, b_a0_2, b_a0_3, re_, hF_a0_0, hF_a0_1, hF_a0_2, hF_a0_3, by repeat (first | (with_reducible first | exact HB.out | apply below_alloc | apply pw_below_drewN | apply below_drew1 | refine below_set ?_ q7.out | refine below_set ?_ q9.out) | exact HB.out)⟩

/-! ### laws_toMotionS: function 35 -/
def laws_toMotionS.l0 : Nat → List (S118) → List (S60) → Int → Option ((List (S60)))
 | 0, _, _, _ => none
 | k + 1, x0, x3, x4 => if x4 < (x0.length : Int) then (if 0 ≤ x4 then ((laws_toMotion.f ((rd_T118 x0 x4).f0) ((rd_T118 x0 x4).f1) ((rd_T118 x0 x4).f2) ((rd_T118 x0 x4).f3)).bind fun b8 => (if x4 < (x3.length : Int) then (laws_toMotionS.l0 k x0 (x3.set (x4 : Int).toNat (⟨b8.1, b8.2.1, b8.2.2.1, b8.2.2.2⟩ : S60)) (wrap64 (x4 + 1))) else (none))) else (none)) else (some x3)
def laws_toMotionS.f (k : Nat) (l0 : List (S118)) : Option ((List (S60))) := if 0 ≤ (l0.length : Int) then (if ((l0.length : Int) : Int).toNat ≤ 8796093022208 then (laws_toMotionS.l0 k l0 (List.replicate ((l0.length : Int) : Int).toNat z60) 0) else (none)) else (none)
theorem laws_toMotionS.mono_l : ∀ k, (∀ y0 y1 y2, LeO (laws_toMotionS.l0 k y0 y1 y2) (laws_toMotionS.l0 (k + 1) y0 y1 y2))
 | 0 => fun _ _ _ r h => by simp [laws_toMotionS.l0] at h
 | k + 1 => by
  have g9 := laws_toMotionS.mono_l k
  ·intro y0 y1 y2
   unfold laws_toMotionS.l0
   repeat' first
   | (with_reducible exact g9 _ _ _)
   | (with_reducible exact LeO.refl _)
   | (with_reducible exact LeO.none _)
   | (with_reducible refine LeO.ite ?_ ?_)
   | (with_reducible refine LeO.bind ?_ (fun _ => ?_))
   | exact g9 _ _ _
   | exact LeO.none _
   | refine LeO.ite ?_ ?_
   | refine LeO.bind ?_ (fun _ => ?_)
theorem laws_toMotionS.mono : ∀ a0 k, LeO (laws_toMotionS.f k a0) (laws_toMotionS.f (k + 1) a0) := by
 intro a0 k
 have g9 := laws_toMotionS.mono_l k
 unfold laws_toMotionS.f
 repeat' first
   | (with_reducible exact g9 _ _ _)
   | (with_reducible exact LeO.refl _)
   | (with_reducible exact LeO.none _)
   | (with_reducible refine LeO.ite ?_ ?_)
   | (with_reducible refine LeO.bind ?_ (fun _ => ?_))
   | exact g9 _ _ _
   | exact LeO.none _
   | refine LeO.ite ?_ ?_
   | refine LeO.bind ?_ (fun _ => ?_)
set_option maxHeartbeats 8000000 in
set_option maxRecDepth 100000 in
theorem laws_toMotionS.calls (k : Nat) (A0 : Option Addr) (c0 : Nat) (l0 : List (S118)) (r : List (S60)) (w : World) (hr0 : Kd.C k118 w A0 l0.length l0) (hc0 : l0.length ≤ c0) (h : laws_toMotionS.f k l0 = some r) :
  Calls Try.prog 35 #[.slice A0 l0.length c0] w fun e w' => ∃ v0_ : Value, e = .returned (v0_) ∧ Kd.R k60 60 w' w.heap.size (fun _ => True) v0_ r ∧ Below w.heap.size w w' := by
 have q2 := Try.underlying118
 have q3 := Try.underlying60
 have m9 := mk_ hr0; have q0 := mk_ hc0; clear hr0 hc0; have HB := mk_ (Below.refl w.heap.size w)
 have H : (if 0 ≤ (l0.length : Int) then (if ((l0.length : Int) : Int).toNat ≤ 8796093022208 then (laws_toMotionS.l0 k l0 (List.replicate ((l0.length : Int) : Int).toNat z60) 0) else (none)) else (none)) = some r := h
 clear h; by_cases c2 : 0 ≤ (l0.length : Int)
 ·rw [if_pos c2] at H
  have L5 := eq_true c2
  have L6 : decide (0 ≤ (l0.length : Int)) = true := decide_eq_true c2; clear c2; by_cases c3 : ((l0.length : Int) : Int).toNat ≤ 8796093022208
  ·rw [if_pos c3] at H
   have l4 := eq_true c3
   have P7 : decide (((l0.length : Int) : Int).toNat ≤ 8796093022208) = true := decide_eq_true c3; clear c3
   obtain ⟨s0, h9⟩ : ∃ y_ : List (S60), y_ = (List.replicate ((l0.length : Int) : Int).toNat z60) := ⟨_, rfl⟩
   replace H : (laws_toMotionS.l0 k l0 s0 0) = some r := by first | (rw [h9]; with_reducible exact H) | (have H2_ := (Option.bind_some _ _).symm.trans H; rw [h9]; with_reducible exact H2_) | (have H2_ := (Option.bind_some _ _).symm.trans H; with_reducible exact H2_) | with_reducible exact H | (rw [h9]; exact H) | exact H
   have o3 := mk_ h9; clear h9
   have H' := mk_ H
   clear H
   go_enter Try.func35, Try.ntmps35
   go_wp2_with (first | ((with_reducible refine gd_ 7 rfl ?_); refine Kd.R_make k60 _ 60 rfl (N := 7) rfl 61 _ _ rfl (l0.length : Int) rfl rfl Try.underlying61 (.agg #[(.float .f64 0), (.float .f64 0), (.float .f64 0), (.float .f64 0)]) 32 info60 rfl (by decide) (by omega) z60 (ok := fun _ => True) (okp := fun _ => True) (k60_mkM _ _ _ z60 rfl rfl rfl rfl) (fun _ hk => hk) trivial (od_) (Nat.le_trans (Nat.mul_le_mul_right _ (od_ : (l0.length : Int).toNat ≤ 8796093022208)) (by omega)) (Below.refl _ _) (Nat.le_refl _) ?_; intro v106 w4 s1 hb hg_ hnew_; clear hg_ hnew_; (first | rw [← o3.out] at s1 | (simp only [Int.reduceToNat] at s1; rw [← o3.out] at s1)); have s2 := mk_ (Kd.R_lower s1 (below_size (by exact HB.out))); replace HB := bp_ HB hb; clear hb s1))
   go_loopg [4] k (fun kq v4 w' => ∃ (d2 : List (S60)) (b4 : Int), v4 = .int .i64 b4 ∧ Aside0 (laws_toMotionS.l0 kq l0 d2 b4 = some r) ∧ Aside0 (kq ≤ k) ∧ Aside0 (Kd.R k60 60 w' w.heap.size (fun _ => True) v106 d2) ∧ Aside0 (Below w.heap.size w w'))
   case atStart => exact ⟨(s0), (0), rf_, H', ⟨Nat.le_refl _⟩, kw_ s2, ⟨hw_ HB⟩⟩
   case round => as_aux_lemma =>
    clear H'; (try clear c2); (try clear L5); (try clear L6); (try clear c3)
    obtain ⟨d2, b4, rfl, HA, o2, g8, HB⟩ := hrel
    cases gk with
    | zero => exact absurd HA.out (by simp [laws_toMotionS.l0])
    | succ k1 =>
     have H := HA.out; clear HA
     simp only [laws_toMotionS.l0] at H
     by_cases c6 : b4 < (l0.length : Int)
     ·rw [if_pos c6] at H; have o8 : decide (b4 < (l0.length : Int)) = true := decide_eq_true c6; clear c6; by_cases c7 : 0 ≤ b4
      ·rw [if_pos c7] at H; have s3 : decide (0 ≤ b4) = true := decide_eq_true c7; clear c7
       obtain ⟨fr108_0, d8⟩ : ∃ y_ : Fl, y_ = ((rd_T118 l0 b4).f0) := ⟨_, rfl⟩
       replace H : ((laws_toMotion.f fr108_0 ((rd_T118 l0 b4).f1) ((rd_T118 l0 b4).f2) ((rd_T118 l0 b4).f3)).bind fun b8 => (if b4 < (d2.length : Int) then (laws_toMotionS.l0 k1 l0 (d2.set (b4 : Int).toNat (⟨b8.1, b8.2.1, b8.2.2.1, b8.2.2.2⟩ : S60)) (wrap64 (b4 + 1))) else (none))) = some r := by first | (rw [d8]; with_reducible exact H) | (have H2_ := (Option.bind_some _ _).symm.trans H; rw [d8]; with_reducible exact H2_) | (have H2_ := (Option.bind_some _ _).symm.trans H; with_reducible exact H2_) | with_reducible exact H | (rw [d8]; exact H) | exact H
       have Nfr108_0 := mk_ d8; clear d8
       obtain ⟨fr108_1, d9⟩ : ∃ y_ : Fl, y_ = ((rd_T118 l0 b4).f1) := ⟨_, rfl⟩
       replace H : ((laws_toMotion.f fr108_0 fr108_1 ((rd_T118 l0 b4).f2) ((rd_T118 l0 b4).f3)).bind fun b8 => (if b4 < (d2.length : Int) then (laws_toMotionS.l0 k1 l0 (d2.set (b4 : Int).toNat (⟨b8.1, b8.2.1, b8.2.2.1, b8.2.2.2⟩ : S60)) (wrap64 (b4 + 1))) else (none))) = some r := by first | (rw [d9]; with_reducible exact H) | (have H2_ := (Option.bind_some _ _).symm.trans H; rw [d9]; with_reducible exact H2_) | (have H2_ := (Option.bind_some _ _).symm.trans H; with_reducible exact H2_) | with_reducible exact H | (rw [d9]; exact H) | exact H
       have Nfr108_1 := mk_ d9; clear d9
       obtain ⟨fr108_2, g1⟩ : ∃ y_ : Fl, y_ = ((rd_T118 l0 b4).f2) := ⟨_, rfl⟩
       replace H : ((laws_toMotion.f fr108_0 fr108_1 fr108_2 ((rd_T118 l0 b4).f3)).bind fun b8 => (if b4 < (d2.length : Int) then (laws_toMotionS.l0 k1 l0 (d2.set (b4 : Int).toNat (⟨b8.1, b8.2.1, b8.2.2.1, b8.2.2.2⟩ : S60)) (wrap64 (b4 + 1))) else (none))) = some r := by first | (rw [g1]; with_reducible exact H) | (have H2_ := (Option.bind_some _ _).symm.trans H; rw [g1]; with_reducible exact H2_) | (have H2_ := (Option.bind_some _ _).symm.trans H; with_reducible exact H2_) | with_reducible exact H | (rw [g1]; exact H) | exact H
       have Nfr108_2 := mk_ g1; clear g1
       obtain ⟨fr108_3, g2⟩ : ∃ y_ : Fl, y_ = ((rd_T118 l0 b4).f3) := ⟨_, rfl⟩
       replace H : ((laws_toMotion.f fr108_0 fr108_1 fr108_2 fr108_3).bind fun b8 => (if b4 < (d2.length : Int) then (laws_toMotionS.l0 k1 l0 (d2.set (b4 : Int).toNat (⟨b8.1, b8.2.1, b8.2.2.1, b8.2.2.2⟩ : S60)) (wrap64 (b4 + 1))) else (none))) = some r := by first | (rw [g2]; with_reducible exact H) | (have H2_ := (Option.bind_some _ _).symm.trans H; rw [g2]; with_reducible exact H2_) | (have H2_ := (Option.bind_some _ _).symm.trans H; with_reducible exact H2_) | with_reducible exact H | (rw [g2]; exact H) | exact H
       have Nfr108_3 := mk_ g2; clear g2; replace H := Option.bind_eq_some_iff.mp H; obtain ⟨⟨n4, n5, n6, n7⟩, N4, H⟩ := H; (try dsimp only at H); have A8 := mk_ N4; clear N4; by_cases c9 : b4 < (d2.length : Int)
       ·rw [if_pos c9] at H; have P8 : decide (b4 < (d2.length : Int)) = true := decide_eq_true c9; clear c9
        obtain ⟨o9, j1⟩ : ∃ y_ : List (S60), y_ = (d2.set (b4 : Int).toNat (⟨n4, n5, n6, n7⟩ : S60)) := ⟨_, rfl⟩
        replace H : (laws_toMotionS.l0 k1 l0 o9 (wrap64 (b4 + 1))) = some r := by first | (rw [j1]; with_reducible exact H) | (have H2_ := (Option.bind_some _ _).symm.trans H; rw [j1]; with_reducible exact H2_) | (have H2_ := (Option.bind_some _ _).symm.trans H; with_reducible exact H2_) | with_reducible exact H | (rw [j1]; exact H) | exact H
        have s4 := mk_ j1; clear j1
        have H' := mk_ H
        clear H
        have p0 : 0 ≤ (b4 : Int) := od_
        have p1 : b4 < (l0.length : Int) := od_
        obtain ⟨N5, b_fr108_0, b_fr108_1, b_fr108_2, b_fr108_3, L7, h5, h6, h7, h8, hF108_0, hF108_1, hF108_2, hF108_3⟩ := at_T118 m9.out b4 p0 p1
        have hF_fr108_0 := hF108_0.trans Nfr108_0.out.symm
        clear hF108_0
        have hF_fr108_1 := hF108_1.trans Nfr108_1.out.symm
        clear hF108_1
        have hF_fr108_2 := hF108_2.trans Nfr108_2.out.symm
        clear hF108_2
        have hF_fr108_3 := hF108_3.trans Nfr108_3.out.symm
        clear hF108_3; cases L7
        replace h5 := (HB.out.cell (World.block_lt_of_cell? w _ h5)).trans h5
        replace h6 := (HB.out.cell (World.block_lt_of_cell? w _ h6)).trans h6
        replace h7 := (HB.out.cell (World.block_lt_of_cell? w _ h7)).trans h7
        replace h8 := (HB.out.cell (World.block_lt_of_cell? w _ h8)).trans h8
        replace p0 := eq_true p0; replace p1 := eq_true p1
        go_wp2_with (first | ((with_reducible refine gc_ 77 rfl ?_); refine gl_ (some 20) rfl Try.func77 #[.agg #[.float .f64 b_fr108_0, .float .f64 b_fr108_1, .float .f64 b_fr108_2, .float .f64 b_fr108_3]] ?_; (with_reducible refine (laws_toMotion.calls b_fr108_0 fr108_0 b_fr108_1 fr108_1 b_fr108_2 fr108_2 b_fr108_3 fr108_3 n4 n5 n6 n7 _ ?b6 ?b7 ?s5 ?s6 A8.out).mono ?_); (case b6 => exact hF_fr108_0); (case b7 => exact hF_fr108_1); (case s5 => exact hF_fr108_2); (case s6 => exact hF_fr108_3); rintro e l8 ⟨l9, m2, m3, m4, rfl, n8, n9, o0, o1, hb⟩; refine ⟨_, rfl, ?_⟩; replace g8 := rb_ g8 hb; replace HB := bp_ HB hb; (try clear hb); (try clear Q3); (try clear hk); (try clear hi); have L8 : 0 ≤ (b4 : Int) := od_; have L9 : (b4 : Int) < ((d2.length : Int) : Int) := od_; obtain ⟨g4, s7, s8, s9, gl10, cl10, HG10⟩ := Kd.R_form g8.out (by omega); (first | cases s8 | (injection s8 with ea_ en_ ec_; (first | subst ea_ | (injection ea_ with ea_; subst ea_)); subst ec_; clear en_)); have GB10 := mk_ s9; have P9 := mk_ HG10; clear s9 gl10 HG10; obtain ⟨Q0, t0, t1, j2, j3⟩ := Kd.R_elem g8.out z60 (b4 : Int) L8 L9; obtain ⟨b_fr10_0, b_fr10_1, b_fr10_2, b_fr10_3, rfl, hF10_0, hF10_1, hF10_2, hF10_3⟩ := k60_openM t1; have M0 : l8.cell? ⟨g4, (b4 : Int).toNat * 4, none⟩ = some (.float .f64 b_fr10_0) := j2 0 _ rfl; have M1 : l8.cell? ⟨g4, (b4 : Int).toNat * 4 + 1, none⟩ = some (.float .f64 b_fr10_1) := j2 1 _ rfl; have M2 : l8.cell? ⟨g4, (b4 : Int).toNat * 4 + 2, none⟩ = some (.float .f64 b_fr10_2) := j2 2 _ rfl; have M3 : l8.cell? ⟨g4, (b4 : Int).toNat * 4 + 3, none⟩ = some (.float .f64 b_fr10_3) := j2 3 _ rfl; have M4 : l8.frozen? ⟨g4, (b4 : Int).toNat * 4, none⟩ = false := j3 0; have M5 : l8.frozen? ⟨g4, (b4 : Int).toNat * 4 + 1, none⟩ = false := j3 1; have M6 : l8.frozen? ⟨g4, (b4 : Int).toNat * 4 + 2, none⟩ = false := j3 2; have M7 : l8.frozen? ⟨g4, (b4 : Int).toNat * 4 + 3, none⟩ = false := j3 3; clear t0 j2 j3; (try clear t1); replace L8 := eq_true L8; replace L9 := eq_true L9; have t2 := mk_ (show Kd.R k60 60 l8 w.heap.size (fun _ => True) (.slice (some ⟨g4, 0, none⟩) d2.length s7) d2 from (by exact g8.out)); obtain ⟨Q1, o4, t3, h4, j4⟩ := Kd.R_elem t2.out z60 (b4 : Int) (od_) (by have h_ : (b4 : Int) < ((d2.length : Int) : Int) := od_; first | exact h_ | (have e_ := (Kd.R_reads' g8.out).1; omega) | simpa using h_); obtain ⟨b_fr12_0, b_fr12_1, b_fr12_2, b_fr12_3, rfl, hF12_0, hF12_1, hF12_2, hF12_3⟩ := k60_openM t3; have HP12 := Kd.R_seg t2.out (b4 : Int) (od_) (by have h_ : (b4 : Int) < ((d2.length : Int) : Int) := od_; first | exact h_ | (have e_ := (Kd.R_reads' g8.out).1; omega) | simpa using h_) (seg := [.float .f64 l9, .float .f64 m2, .float .f64 m3, .float .f64 m4]) (j := 0) o4 h4 (show 4 ≤ 4 from by decide) (x' := (⟨n4, n5, n6, n7⟩ : S60)) (k60_mkM _ _ _ (⟨n4, n5, n6, n7⟩ : S60) n8 n9 o0 o1) (fun _ hk => hk); have p2 := h4 0 _ rfl; (try simp only [show (k60).sz = 4 from rfl, Nat.mul_one, Nat.add_zero] at p2); have p3 := j4 0; (try simp only [show (k60).sz = 4 from rfl, Nat.mul_one, Nat.add_zero] at p3); have p4 := h4 1 _ rfl; (try simp only [show (k60).sz = 4 from rfl, Nat.mul_one, Nat.add_zero] at p4); have p5 := j4 1; (try simp only [show (k60).sz = 4 from rfl, Nat.mul_one, Nat.add_zero] at p5); have p6 := h4 2 _ rfl; (try simp only [show (k60).sz = 4 from rfl, Nat.mul_one, Nat.add_zero] at p6); have p7 := j4 2; (try simp only [show (k60).sz = 4 from rfl, Nat.mul_one, Nat.add_zero] at p7); have p8 := h4 3 _ rfl; (try simp only [show (k60).sz = 4 from rfl, Nat.mul_one, Nat.add_zero] at p8); have p9 := j4 3; (try simp only [show (k60).sz = 4 from rfl, Nat.mul_one, Nat.add_zero] at p9); clear o4 h4 j4; (try clear t3)) | ((with_reducible refine gate_store (t := 60) (p := 21) rfl ?_); refine store_event (t := 60) (p := 21) (v := ?vo_w13) (w1 := ((((l8.setCell ⟨g4, (b4 : Int).toNat * 4, none⟩ (.float .f64 l9)).setCell ⟨g4, (b4 : Int).toNat * 4 + 1, none⟩ (.float .f64 m2)).setCell ⟨g4, (b4 : Int).toNat * 4 + 2, none⟩ (.float .f64 m3)).setCell ⟨g4, (b4 : Int).toNat * 4 + 3, none⟩ (.float .f64 m4))) ?hg ?ho ?hn ?hr ?_; (case ho => rfl); (case hg => rfl); (case hn => rfl); (case hr => exact hr_); intro M8 hw; have hg : l8.grownBy M8 (some g4) := (by rw [hw]; exact HP12.2); have hp_ : Kd.R k60 60 M8 w.heap.size (fun _ => True) (.slice (some ⟨g4, 0, none⟩) d2.length s7) o9 := (by rw [hw, s4.out]; exact HP12.1); clear HP12; replace g8 := mk_ (hp_); replace HB := mk_ ((by rw [hw]; exact below_set (below_set (below_set (below_set (HB.out) GB10.out) GB10.out) GB10.out) GB10.out : Below w.heap.size w M8)); clear hg hw hp_))
        go_roundg k1
        case measure => have := o2.out; omega
        case rel => exact ⟨(o9), (wrap64 (b4 + 1)), rf_, H', ⟨by have := o2.out; omega⟩, kw_ g8, ⟨hw_ HB⟩⟩
       ·rw [if_neg c9] at H
        exact absurd H (by simp)
      ·rw [if_neg c7] at H
       exact absurd H (by simp)
     ·rw [if_neg c6] at H; have o8 : decide (b4 < (l0.length : Int)) = false := decide_eq_false c6; clear c6; obtain rfl := Option.some.inj H; go_wp2; go_ret
      exact ⟨_, re_, by (with_reducible repeat (first | apply Kd.R_alloc | apply Kd.R_drewN | apply Kd.R_drew)); exact g8.out, hw_ HB⟩
  ·rw [if_neg c3] at H
   exact absurd H (by simp)
 ·rw [if_neg c2] at H
  exact absurd H (by simp)

/-! ### laws_sameFloat: function 64 -/
def laws_sameFloat.j0 : Nat → Fl → Fl → Bool → Option (Bool)
 | 0, _, _, _ => none
 | k + 1, x0, x1, Q2 => if Q2 = true then (if (fcmp .neq .f64 x0 x0) = true then (some (fcmp .neq .f64 x1 x1)) else (some false)) else (if (fcmp .eql .f64 x0 (cn .f64 0)) = true then (if (fcmp .eql .f64 x1 (cn .f64 0)) = true then (some ((fcmp .gtr .f64 (fop .quo .f64 (cn .f64 4607182418800017408) x0) (cn .f64 0)) == (fcmp .gtr .f64 (fop .quo .f64 (cn .f64 4607182418800017408) x1) (cn .f64 0)))) else (some (fcmp .eql .f64 x0 x1))) else (some (fcmp .eql .f64 x0 x1)))
def laws_sameFloat.f (k : Nat) (a0 : Fl) (a1 : Fl) : Option (Bool) := if (fcmp .neq .f64 a0 a0) = true then (laws_sameFloat.j0 k a0 a1 true) else (laws_sameFloat.j0 k a0 a1 (fcmp .neq .f64 a1 a1))
theorem laws_sameFloat.mono_l : ∀ k, (∀ y0 y1 y2, LeO (laws_sameFloat.j0 k y0 y1 y2) (laws_sameFloat.j0 (k + 1) y0 y1 y2))
 | 0 => fun _ _ _ r h => by simp [laws_sameFloat.j0] at h
 | k + 1 => by
  have g9 := laws_sameFloat.mono_l k
  ·intro y0 y1 y2
   unfold laws_sameFloat.j0
   repeat' first
   | (with_reducible exact g9 _ _ _)
   | (with_reducible exact LeO.refl _)
   | (with_reducible exact LeO.none _)
   | (with_reducible refine LeO.ite ?_ ?_)
   | (with_reducible refine LeO.bind ?_ (fun _ => ?_))
   | exact g9 _ _ _
   | exact LeO.none _
   | refine LeO.ite ?_ ?_
   | refine LeO.bind ?_ (fun _ => ?_)
theorem laws_sameFloat.mono : ∀ a0 a1 k, LeO (laws_sameFloat.f k a0 a1) (laws_sameFloat.f (k + 1) a0 a1) := by
 intro a0 a1 k
 have g9 := laws_sameFloat.mono_l k
 unfold laws_sameFloat.f
 repeat' first
   | (with_reducible exact g9 _ _ _)
   | (with_reducible exact LeO.refl _)
   | (with_reducible exact LeO.none _)
   | (with_reducible refine LeO.ite ?_ ?_)
   | (with_reducible refine LeO.bind ?_ (fun _ => ?_))
   | exact g9 _ _ _
   | exact LeO.none _
   | refine LeO.ite ?_ ?_
   | refine LeO.bind ?_ (fun _ => ?_)
set_option maxHeartbeats 8000000 in
set_option maxRecDepth 100000 in
theorem laws_sameFloat.calls (k : Nat) (b_a0 : Nat) (a0 : Fl) (b_a1 : Nat) (a1 : Fl) (r : Bool) (w : World) (hF_a0 : cn .f64 b_a0 = a0) (hF_a1 : cn .f64 b_a1 = a1) (h : laws_sameFloat.f k a0 a1 = some r) :
  Calls Try.prog 64 #[.float .f64 b_a0, .float .f64 b_a1] w fun e w' => e = .returned (.bool r) ∧ Drawn0 w w' := by
 have H : (if (fcmp .neq .f64 a0 a0) = true then (laws_sameFloat.j0 k a0 a1 true) else (laws_sameFloat.j0 k a0 a1 (fcmp .neq .f64 a1 a1))) = some r := h
 clear h; have M9 := mk_ H; clear H
 go_enter Try.func64, Try.ntmps64
 go_upto_region 1 with (fail)
 go_cut [12] (fun v12 wc => ∃ (kq : Nat) (j8 : Bool), v12 = .bool j8 ∧ Aside0 (laws_sameFloat.j0 kq a0 a1 j8 = some r) ∧ Aside0 (kq ≤ k) ∧ Drawn0 w wc)
 case first => as_aux_lemma =>
  have H := M9.out; clear M9; by_cases c4 : (fcmp .neq .f64 a0 a0) = true
  ·rw [if_pos c4] at H
   have j5 : (fcmp .neq .f64 a0 a0) = true := c4
   clear c4
   (first | rw [j5] | (simp only [i64_w, i32_w]; rw [j5]) | skip)
   have H' := mk_ H
   clear H; go_wp2; go_meet
   case rel => exact ⟨_, (true), rf_, H', ⟨by first | omega | exact Nat.le_refl _⟩, by repeat (first | exact Drawn0.refl _ | apply Drawn0.step)⟩
  ·rw [if_neg c4] at H
   have j5 : (fcmp .neq .f64 a0 a0) = false := by simpa using c4
   clear c4
   (first | rw [j5] | (simp only [i64_w, i32_w]; rw [j5]) | skip)
   have H' := mk_ H
   clear H; go_wp2; go_meet
   case rel => exact ⟨_, ((fcmp .neq .f64 a1 a1)), rf_, H', ⟨by first | omega | exact Nat.le_refl _⟩, by repeat (first | exact Drawn0.refl _ | apply Drawn0.step)⟩
 case rest => as_aux_lemma =>
  clear M9
  obtain ⟨kq, j8, rfl, HA, Q4, ⟨mc2, rfl⟩⟩ := hcut
  cases kq with
  | zero => exact absurd HA.out (by simp [laws_sameFloat.j0])
  | succ kj2 =>
   have H := HA.out; clear HA
   simp only [laws_sameFloat.j0] at H
   by_cases c5 : j8 = true
   ·subst c5; rw [if_pos rfl] at H
    by_cases c6 : (fcmp .neq .f64 a0 a0) = true
    ·rw [if_pos c6] at H
     have o8 : (fcmp .neq .f64 a0 a0) = true := c6
     clear c6; obtain rfl := Option.some.inj H; go_wp2; go_ret
     exact ⟨by first | rfl | (simp; done) | (simp [*]; done), by repeat (first | exact Drawn0.refl _ | apply Drawn0.step)⟩
    ·rw [if_neg c6] at H
     have o8 : (fcmp .neq .f64 a0 a0) = false := by simpa using c6
     clear c6; obtain rfl := Option.some.inj H; go_wp2; go_ret
     exact ⟨by first | rfl | (simp; done) | (simp [*]; done), by repeat (first | exact Drawn0.refl _ | apply Drawn0.step)⟩
   ·replace c5 := Bool.eq_false_iff.mpr c5; subst c5; rw [if_neg (show ¬ (false = true) by decide)] at H; by_cases c7 : (fcmp .eql .f64 a0 (cn .f64 0)) = true
    ·rw [if_pos c7] at H
     have s3 : (fcmp .eql .f64 a0 (cn .f64 0)) = true := c7
     clear c7; by_cases c8 : (fcmp .eql .f64 a1 (cn .f64 0)) = true
     ·rw [if_pos c8] at H
      have N0 : (fcmp .eql .f64 a1 (cn .f64 0)) = true := c8
      clear c8
      obtain ⟨ft114, hft114⟩ : ∃ y_ : Fl, y_ = (fop .quo .f64 (cn .f64 4607182418800017408) a0) := ⟨_, rfl⟩
      replace H : (some ((fcmp .gtr .f64 ft114 (cn .f64 0)) == (fcmp .gtr .f64 (fop .quo .f64 (cn .f64 4607182418800017408) a1) (cn .f64 0)))) = some r := by first | (rw [hft114]; with_reducible exact H) | (have H2_ := (Option.bind_some _ _).symm.trans H; rw [hft114]; with_reducible exact H2_) | (have H2_ := (Option.bind_some _ _).symm.trans H; with_reducible exact H2_) | with_reducible exact H | (rw [hft114]; exact H) | exact H
      have Nft114 := mk_ hft114; clear hft114
      obtain ⟨ft115, hft115⟩ : ∃ y_ : Fl, y_ = (fop .quo .f64 (cn .f64 4607182418800017408) a1) := ⟨_, rfl⟩
      replace H : (some ((fcmp .gtr .f64 ft114 (cn .f64 0)) == (fcmp .gtr .f64 ft115 (cn .f64 0)))) = some r := by first | (rw [hft115]; with_reducible exact H) | (have H2_ := (Option.bind_some _ _).symm.trans H; rw [hft115]; with_reducible exact H2_) | (have H2_ := (Option.bind_some _ _).symm.trans H; with_reducible exact H2_) | with_reducible exact H | (rw [hft115]; exact H) | exact H
      have Nft115 := mk_ hft115; clear hft115; obtain rfl := Option.some.inj H
      go_wp2_with (first | ((with_reducible refine gd_ 28 rfl ?_); refine fop_event rfl (N := 28) rfl (op := .quo) (by simp) rfl .f64 4607182418800017408 b_a0 (cn .f64 4607182418800017408) a0 rfl rfl rfl hF_a0 ?_; intro b_ft114 nf_ hF_; replace hF_ := hF_.trans Nft114.out.symm; have hF_ft114 := hF_; clear hF_) | ((with_reducible refine gd_ 31 rfl ?_); refine fop_event rfl (N := 31) rfl (op := .quo) (by simp) rfl .f64 4607182418800017408 b_a1 (cn .f64 4607182418800017408) a1 rfl rfl rfl hF_a1 ?_; intro b_ft115 nf_ hF_; replace hF_ := hF_.trans Nft115.out.symm; have hF_ft115 := hF_; clear hF_))
      go_ret
      exact ⟨by first | rfl | (simp; done) | (simp [*]; done), by repeat (first | exact Drawn0.refl _ | apply Drawn0.step)⟩
     ·rw [if_neg c8] at H
      have N0 : (fcmp .eql .f64 a1 (cn .f64 0)) = false := by simpa using c8
      clear c8; obtain rfl := Option.some.inj H; go_wp2; go_ret
      exact ⟨by first | rfl | (simp; done) | (simp [*]; done), by repeat (first | exact Drawn0.refl _ | apply Drawn0.step)⟩
    ·rw [if_neg c7] at H
     have s3 : (fcmp .eql .f64 a0 (cn .f64 0)) = false := by simpa using c7
     clear c7; obtain rfl := Option.some.inj H; go_wp2; go_ret
     exact ⟨by first | rfl | (simp; done) | (simp [*]; done), by repeat (first | exact Drawn0.refl _ | apply Drawn0.step)⟩

/-! ### laws_eqMotion: function 78 -/
def laws_eqMotion.f (k : Nat) (a0_0 : Fl) (a0_1 : Fl) (a0_2 : Fl) (a0_3 : Fl) (a1_0 : Fl) (a1_1 : Fl) (a1_2 : Fl) (a1_3 : Fl) : Option (Bool) := (laws_sameFloat.f k a0_0 a1_0).bind fun m5 => (if m5 = true then ((laws_sameFloat.f k a0_1 a1_1).bind fun m6 => (if m6 = true then ((laws_sameFloat.f k a0_2 a1_2).bind fun m7 => (if m7 = true then ((laws_sameFloat.f k a0_3 a1_3).bind fun m8 => (if m8 = true then (some true) else (some false))) else (some false))) else (some false))) else (some false))
theorem laws_eqMotion.mono : ∀ a0 a1 a2 a3 a4 a5 a6 a7 k, LeO (laws_eqMotion.f k a0 a1 a2 a3 a4 a5 a6 a7) (laws_eqMotion.f (k + 1) a0 a1 a2 a3 a4 a5 a6 a7) := by
 intro a0 a1 a2 a3 a4 a5 a6 a7 k
 unfold laws_eqMotion.f
 repeat' first
   | (with_reducible exact laws_sameFloat.mono _ _ _)
   | (with_reducible exact LeO.refl _)
   | (with_reducible exact LeO.none _)
   | (with_reducible refine LeO.ite ?_ ?_)
   | (with_reducible refine LeO.bind ?_ (fun _ => ?_))
   | exact laws_sameFloat.mono _ _ _
   | exact LeO.none _
   | refine LeO.ite ?_ ?_
   | refine LeO.bind ?_ (fun _ => ?_)
set_option maxHeartbeats 8000000 in
set_option maxRecDepth 100000 in
theorem laws_eqMotion.calls (k : Nat) (b_a0_0 : Nat) (a0_0 : Fl) (b_a0_1 : Nat) (a0_1 : Fl) (b_a0_2 : Nat) (a0_2 : Fl) (b_a0_3 : Nat) (a0_3 : Fl) (b_a1_0 : Nat) (a1_0 : Fl) (b_a1_1 : Nat) (a1_1 : Fl) (b_a1_2 : Nat) (a1_2 : Fl) (b_a1_3 : Nat) (a1_3 : Fl) (r : Bool) (w : World) (hF_a0_0 : cn .f64 b_a0_0 = a0_0) (hF_a0_1 : cn .f64 b_a0_1 = a0_1) (hF_a0_2 : cn .f64 b_a0_2 = a0_2) (hF_a0_3 : cn .f64 b_a0_3 = a0_3) (hF_a1_0 : cn .f64 b_a1_0 = a1_0) (hF_a1_1 : cn .f64 b_a1_1 = a1_1) (hF_a1_2 : cn .f64 b_a1_2 = a1_2) (hF_a1_3 : cn .f64 b_a1_3 = a1_3) (h : laws_eqMotion.f k a0_0 a0_1 a0_2 a0_3 a1_0 a1_1 a1_2 a1_3 = some r) :
  Calls Try.prog 78 #[.agg #[.float .f64 b_a0_0, .float .f64 b_a0_1, .float .f64 b_a0_2, .float .f64 b_a0_3], .agg #[.float .f64 b_a1_0, .float .f64 b_a1_1, .float .f64 b_a1_2, .float .f64 b_a1_3]] w fun e w' => e = .returned (.bool r) ∧ Below w.heap.size w w' := by
 have q3 := Try.underlying60
 have HB := mk_ (Below.refl w.heap.size w)
 have H : ((laws_sameFloat.f k a0_0 a1_0).bind fun m5 => (if m5 = true then ((laws_sameFloat.f k a0_1 a1_1).bind fun m6 => (if m6 = true then ((laws_sameFloat.f k a0_2 a1_2).bind fun m7 => (if m7 = true then ((laws_sameFloat.f k a0_3 a1_3).bind fun m8 => (if m8 = true then (some true) else (some false))) else (some false))) else (some false))) else (some false))) = some r := h
 clear h; replace H := Option.bind_eq_some_iff.mp H; obtain ⟨m5, N6, H⟩ := H; (try dsimp only at H); have A3 := mk_ N6; clear N6; by_cases c4 : m5 = true
 ·subst c4; rw [if_pos rfl] at H
  replace H := Option.bind_eq_some_iff.mp H; obtain ⟨m6, N7, H⟩ := H
  (try dsimp only at H); have A5 := mk_ N7; clear N7
  by_cases c6 : m6 = true
  ·subst c6; rw [if_pos rfl] at H
   replace H := Option.bind_eq_some_iff.mp H; obtain ⟨m7, N8, H⟩ := H
   (try dsimp only at H); have A7 := mk_ N8; clear N8
   by_cases c8 : m7 = true
   ·subst c8; rw [if_pos rfl] at H
    replace H := Option.bind_eq_some_iff.mp H; obtain ⟨m8, N9, H⟩ := H
    (try dsimp only at H); have A9 := mk_ N9; clear N9
    by_cases y5 : m8 = true
    ·subst y5; rw [if_pos rfl] at H
     obtain rfl := Option.some.inj H
     go_enter Try.func78, Try.ntmps78
     go_wp2_with (first | ((with_reducible refine gd_ 2 rfl ?_); refine box_event ?hg (N := 2) ?hd (cs := #[.float .f64 b_a0_0, .float .f64 b_a0_1, .float .f64 b_a0_2, .float .f64 b_a0_3]) (t := 60) ?hr ?_; (case hd => rfl); (case hg => rfl); (case hr => exact hr_); intro j9 hg l8 hbox hb; have a8 := mk_ (hbox); have g5 := gb_ hg HB; replace HB := bp_ HB hb; have l1 := g5; clear hb hbox hg) | ((with_reducible refine gd_ 3 rfl ?_); refine box_event ?hg (N := 3) ?hd (cs := #[.float .f64 b_a1_0, .float .f64 b_a1_1, .float .f64 b_a1_2, .float .f64 b_a1_3]) (t := 60) ?hr ?_; (case hd => rfl); (case hg => rfl); (case hr => exact hr_); intro l2 hg Q5 hbox hb; have a9 := mk_ (hbox); have g6 := gb_ hg HB; replace HB := bp_ HB hb; have l3 := g6; have b5 := nb_ hg a8; replace a8 := bl_ a8 hb; have b9 := ns_ b5; clear hb hbox hg; have O0 := b5.out; have O1 := b9.out; have y6 := bc0_ a8; have y7 := bc1_ a8; have y8 := bc2_ a8; have y9 := bc3_ a8; have A1 := bf_ a8 0; have A2 := bf_ a8 1; have A4 := bf_ a8 2; have A6 := bf_ a8 3; have B0 := bc0_ a9; have B1 := bc1_ a9; have B2 := bc2_ a9; have B3 := bc3_ a9; have B4 := bf_ a9 0; have B5 := bf_ a9 1; have B6 := bf_ a9 2; have B7 := bf_ a9 3) | ((with_reducible refine gc_ 64 rfl ?_); refine gl_ (some 9) rfl Try.func64 #[.float .f64 b_a0_0, .float .f64 b_a1_0] ?_; (with_reducible refine (laws_sameFloat.calls k b_a0_0 a0_0 b_a1_0 a1_0 true _ ?b6 ?b7 A3.out).mono ?_); (case b6 => exact hF_a0_0); (case b7 => exact hF_a1_0); rintro e w' ⟨rfl, ⟨nd, rfl⟩⟩; refine ⟨_, rfl, ?_⟩) | ((with_reducible refine gc_ 64 rfl ?_); refine gl_ (some 15) rfl Try.func64 #[.float .f64 b_a0_1, .float .f64 b_a1_1] ?_; (with_reducible refine (laws_sameFloat.calls k b_a0_1 a0_1 b_a1_1 a1_1 true _ ?b6 ?b7 A5.out).mono ?_); (case b6 => exact hF_a0_1); (case b7 => exact hF_a1_1); rintro e w' ⟨rfl, ⟨nd, rfl⟩⟩; refine ⟨_, rfl, ?_⟩) | ((with_reducible refine gc_ 64 rfl ?_); refine gl_ (some 21) rfl Try.func64 #[.float .f64 b_a0_2, .float .f64 b_a1_2] ?_; (with_reducible refine (laws_sameFloat.calls k b_a0_2 a0_2 b_a1_2 a1_2 true _ ?b6 ?b7 A7.out).mono ?_); (case b6 => exact hF_a0_2); (case b7 => exact hF_a1_2); rintro e w' ⟨rfl, ⟨nd, rfl⟩⟩; refine ⟨_, rfl, ?_⟩) | ((with_reducible refine gc_ 64 rfl ?_); refine gl_ (some 27) rfl Try.func64 #[.float .f64 b_a0_3, .float .f64 b_a1_3] ?_; (with_reducible refine (laws_sameFloat.calls k b_a0_3 a0_3 b_a1_3 a1_3 true _ ?b6 ?b7 A9.out).mono ?_); (case b6 => exact hF_a0_3); (case b7 => exact hF_a1_3); rintro e w' ⟨rfl, ⟨nd, rfl⟩⟩; refine ⟨_, rfl, ?_⟩))
     go_ret
     exact ⟨re_, hw_ HB⟩
    ·replace y5 := Bool.eq_false_iff.mpr y5; subst y5; rw [if_neg (show ¬ (false = true) by decide)] at H; obtain rfl := Option.some.inj H
     go_enter Try.func78, Try.ntmps78
     go_wp2_with (first | ((with_reducible refine gd_ 2 rfl ?_); refine box_event ?hg (N := 2) ?hd (cs := #[.float .f64 b_a0_0, .float .f64 b_a0_1, .float .f64 b_a0_2, .float .f64 b_a0_3]) (t := 60) ?hr ?_; (case hd => rfl); (case hg => rfl); (case hr => exact hr_); intro j9 hg Q6 hbox hb; have a8 := mk_ (hbox); have g5 := gb_ hg HB; replace HB := bp_ HB hb; have l1 := g5; clear hb hbox hg) | ((with_reducible refine gd_ 3 rfl ?_); refine box_event ?hg (N := 3) ?hd (cs := #[.float .f64 b_a1_0, .float .f64 b_a1_1, .float .f64 b_a1_2, .float .f64 b_a1_3]) (t := 60) ?hr ?_; (case hd => rfl); (case hg => rfl); (case hr => exact hr_); intro l2 hg Q7 hbox hb; have a9 := mk_ (hbox); have g6 := gb_ hg HB; replace HB := bp_ HB hb; have l3 := g6; have b5 := nb_ hg a8; replace a8 := bl_ a8 hb; have b9 := ns_ b5; clear hb hbox hg; have O2 := b5.out; have O3 := b9.out; have B8 := bc0_ a8; have B9 := bc1_ a8; have C0 := bc2_ a8; have C1 := bc3_ a8; have C2 := bf_ a8 0; have C3 := bf_ a8 1; have C4 := bf_ a8 2; have C5 := bf_ a8 3; have C6 := bc0_ a9; have C8 := bc1_ a9; have C9 := bc2_ a9; have D0 := bc3_ a9; have D1 := bf_ a9 0; have D2 := bf_ a9 1; have D3 := bf_ a9 2; have D4 := bf_ a9 3) | ((with_reducible refine gc_ 64 rfl ?_); refine gl_ (some 9) rfl Try.func64 #[.float .f64 b_a0_0, .float .f64 b_a1_0] ?_; (with_reducible refine (laws_sameFloat.calls k b_a0_0 a0_0 b_a1_0 a1_0 true _ ?b6 ?b7 A3.out).mono ?_); (case b6 => exact hF_a0_0); (case b7 => exact hF_a1_0); rintro e w' ⟨rfl, ⟨nd, rfl⟩⟩; refine ⟨_, rfl, ?_⟩) | ((with_reducible refine gc_ 64 rfl ?_); refine gl_ (some 15) rfl Try.func64 #[.float .f64 b_a0_1, .float .f64 b_a1_1] ?_; (with_reducible refine (laws_sameFloat.calls k b_a0_1 a0_1 b_a1_1 a1_1 true _ ?b6 ?b7 A5.out).mono ?_); (case b6 => exact hF_a0_1); (case b7 => exact hF_a1_1); rintro e w' ⟨rfl, ⟨nd, rfl⟩⟩; refine ⟨_, rfl, ?_⟩) | ((with_reducible refine gc_ 64 rfl ?_); refine gl_ (some 21) rfl Try.func64 #[.float .f64 b_a0_2, .float .f64 b_a1_2] ?_; (with_reducible refine (laws_sameFloat.calls k b_a0_2 a0_2 b_a1_2 a1_2 true _ ?b6 ?b7 A7.out).mono ?_); (case b6 => exact hF_a0_2); (case b7 => exact hF_a1_2); rintro e w' ⟨rfl, ⟨nd, rfl⟩⟩; refine ⟨_, rfl, ?_⟩) | ((with_reducible refine gc_ 64 rfl ?_); refine gl_ (some 27) rfl Try.func64 #[.float .f64 b_a0_3, .float .f64 b_a1_3] ?_; (with_reducible refine (laws_sameFloat.calls k b_a0_3 a0_3 b_a1_3 a1_3 false _ ?b6 ?b7 A9.out).mono ?_); (case b6 => exact hF_a0_3); (case b7 => exact hF_a1_3); rintro e w' ⟨rfl, ⟨nd, rfl⟩⟩; refine ⟨_, rfl, ?_⟩))
     go_ret
     exact ⟨re_, hw_ HB⟩
   ·replace c8 := Bool.eq_false_iff.mpr c8; subst c8; rw [if_neg (show ¬ (false = true) by decide)] at H; obtain rfl := Option.some.inj H
    go_enter Try.func78, Try.ntmps78
    go_wp2_with (first | ((with_reducible refine gd_ 2 rfl ?_); refine box_event ?hg (N := 2) ?hd (cs := #[.float .f64 b_a0_0, .float .f64 b_a0_1, .float .f64 b_a0_2, .float .f64 b_a0_3]) (t := 60) ?hr ?_; (case hd => rfl); (case hg => rfl); (case hr => exact hr_); intro j9 hg Q8 hbox hb; have a8 := mk_ (hbox); have g5 := gb_ hg HB; replace HB := bp_ HB hb; have l1 := g5; clear hb hbox hg) | ((with_reducible refine gd_ 3 rfl ?_); refine box_event ?hg (N := 3) ?hd (cs := #[.float .f64 b_a1_0, .float .f64 b_a1_1, .float .f64 b_a1_2, .float .f64 b_a1_3]) (t := 60) ?hr ?_; (case hd => rfl); (case hg => rfl); (case hr => exact hr_); intro l2 hg Q9 hbox hb; have a9 := mk_ (hbox); have g6 := gb_ hg HB; replace HB := bp_ HB hb; have l3 := g6; have b5 := nb_ hg a8; replace a8 := bl_ a8 hb; have b9 := ns_ b5; clear hb hbox hg; have O4 := b5.out; have O5 := b9.out; have D5 := bc0_ a8; have D6 := bc1_ a8; have D7 := bc2_ a8; have D8 := bc3_ a8; have D9 := bf_ a8 0; have E0 := bf_ a8 1; have E1 := bf_ a8 2; have E2 := bf_ a8 3; have E3 := bc0_ a9; have E4 := bc1_ a9; have E5 := bc2_ a9; have E6 := bc3_ a9; have E7 := bf_ a9 0; have E8 := bf_ a9 1; have E9 := bf_ a9 2; have F0 := bf_ a9 3) | ((with_reducible refine gc_ 64 rfl ?_); refine gl_ (some 9) rfl Try.func64 #[.float .f64 b_a0_0, .float .f64 b_a1_0] ?_; (with_reducible refine (laws_sameFloat.calls k b_a0_0 a0_0 b_a1_0 a1_0 true _ ?b6 ?b7 A3.out).mono ?_); (case b6 => exact hF_a0_0); (case b7 => exact hF_a1_0); rintro e w' ⟨rfl, ⟨nd, rfl⟩⟩; refine ⟨_, rfl, ?_⟩) | ((with_reducible refine gc_ 64 rfl ?_); refine gl_ (some 15) rfl Try.func64 #[.float .f64 b_a0_1, .float .f64 b_a1_1] ?_; (with_reducible refine (laws_sameFloat.calls k b_a0_1 a0_1 b_a1_1 a1_1 true _ ?b6 ?b7 A5.out).mono ?_); (case b6 => exact hF_a0_1); (case b7 => exact hF_a1_1); rintro e w' ⟨rfl, ⟨nd, rfl⟩⟩; refine ⟨_, rfl, ?_⟩) | ((with_reducible refine gc_ 64 rfl ?_); refine gl_ (some 21) rfl Try.func64 #[.float .f64 b_a0_2, .float .f64 b_a1_2] ?_; (with_reducible refine (laws_sameFloat.calls k b_a0_2 a0_2 b_a1_2 a1_2 false _ ?b6 ?b7 A7.out).mono ?_); (case b6 => exact hF_a0_2); (case b7 => exact hF_a1_2); rintro e w' ⟨rfl, ⟨nd, rfl⟩⟩; refine ⟨_, rfl, ?_⟩))
    go_ret
    exact ⟨re_, hw_ HB⟩
  ·replace c6 := Bool.eq_false_iff.mpr c6; subst c6; rw [if_neg (show ¬ (false = true) by decide)] at H; obtain rfl := Option.some.inj H
   go_enter Try.func78, Try.ntmps78
   go_wp2_with (first | ((with_reducible refine gd_ 2 rfl ?_); refine box_event ?hg (N := 2) ?hd (cs := #[.float .f64 b_a0_0, .float .f64 b_a0_1, .float .f64 b_a0_2, .float .f64 b_a0_3]) (t := 60) ?hr ?_; (case hd => rfl); (case hg => rfl); (case hr => exact hr_); intro j9 hg R0 hbox hb; have a8 := mk_ (hbox); have g5 := gb_ hg HB; replace HB := bp_ HB hb; have l1 := g5; clear hb hbox hg) | ((with_reducible refine gd_ 3 rfl ?_); refine box_event ?hg (N := 3) ?hd (cs := #[.float .f64 b_a1_0, .float .f64 b_a1_1, .float .f64 b_a1_2, .float .f64 b_a1_3]) (t := 60) ?hr ?_; (case hd => rfl); (case hg => rfl); (case hr => exact hr_); intro l2 hg R1 hbox hb; have a9 := mk_ (hbox); have g6 := gb_ hg HB; replace HB := bp_ HB hb; have l3 := g6; have b5 := nb_ hg a8; replace a8 := bl_ a8 hb; have b9 := ns_ b5; clear hb hbox hg; have O6 := b5.out; have O7 := b9.out; have F1 := bc0_ a8; have F2 := bc1_ a8; have F3 := bc2_ a8; have F4 := bc3_ a8; have F5 := bf_ a8 0; have F6 := bf_ a8 1; have F7 := bf_ a8 2; have F8 := bf_ a8 3; have F9 := bc0_ a9; have G0 := bc1_ a9; have G1 := bc2_ a9; have G2 := bc3_ a9; have G3 := bf_ a9 0; have G4 := bf_ a9 1; have G5 := bf_ a9 2; have G6 := bf_ a9 3) | ((with_reducible refine gc_ 64 rfl ?_); refine gl_ (some 9) rfl Try.func64 #[.float .f64 b_a0_0, .float .f64 b_a1_0] ?_; (with_reducible refine (laws_sameFloat.calls k b_a0_0 a0_0 b_a1_0 a1_0 true _ ?b6 ?b7 A3.out).mono ?_); (case b6 => exact hF_a0_0); (case b7 => exact hF_a1_0); rintro e w' ⟨rfl, ⟨nd, rfl⟩⟩; refine ⟨_, rfl, ?_⟩) | ((with_reducible refine gc_ 64 rfl ?_); refine gl_ (some 15) rfl Try.func64 #[.float .f64 b_a0_1, .float .f64 b_a1_1] ?_; (with_reducible refine (laws_sameFloat.calls k b_a0_1 a0_1 b_a1_1 a1_1 false _ ?b6 ?b7 A5.out).mono ?_); (case b6 => exact hF_a0_1); (case b7 => exact hF_a1_1); rintro e w' ⟨rfl, ⟨nd, rfl⟩⟩; refine ⟨_, rfl, ?_⟩))
   go_ret
   exact ⟨re_, hw_ HB⟩
 ·replace c4 := Bool.eq_false_iff.mpr c4; subst c4; rw [if_neg (show ¬ (false = true) by decide)] at H; obtain rfl := Option.some.inj H
  go_enter Try.func78, Try.ntmps78
  go_wp2_with (first | ((with_reducible refine gd_ 2 rfl ?_); refine box_event ?hg (N := 2) ?hd (cs := #[.float .f64 b_a0_0, .float .f64 b_a0_1, .float .f64 b_a0_2, .float .f64 b_a0_3]) (t := 60) ?hr ?_; (case hd => rfl); (case hg => rfl); (case hr => exact hr_); intro j9 hg R2 hbox hb; have a8 := mk_ (hbox); have g5 := gb_ hg HB; replace HB := bp_ HB hb; have l1 := g5; clear hb hbox hg) | ((with_reducible refine gd_ 3 rfl ?_); refine box_event ?hg (N := 3) ?hd (cs := #[.float .f64 b_a1_0, .float .f64 b_a1_1, .float .f64 b_a1_2, .float .f64 b_a1_3]) (t := 60) ?hr ?_; (case hd => rfl); (case hg => rfl); (case hr => exact hr_); intro l2 hg R3 hbox hb; have a9 := mk_ (hbox); have g6 := gb_ hg HB; replace HB := bp_ HB hb; have l3 := g6; have b5 := nb_ hg a8; replace a8 := bl_ a8 hb; have b9 := ns_ b5; clear hb hbox hg; have O8 := b5.out; have O9 := b9.out; have G7 := bc0_ a8; have G8 := bc1_ a8; have G9 := bc2_ a8; have H0 := bc3_ a8; have H1 := bf_ a8 0; have H2 := bf_ a8 1; have H3 := bf_ a8 2; have H4 := bf_ a8 3; have H5 := bc0_ a9; have H6 := bc1_ a9; have H7 := bc2_ a9; have H8 := bc3_ a9; have H9 := bf_ a9 0; have I0 := bf_ a9 1; have I1 := bf_ a9 2; have I2 := bf_ a9 3) | ((with_reducible refine gc_ 64 rfl ?_); refine gl_ (some 9) rfl Try.func64 #[.float .f64 b_a0_0, .float .f64 b_a1_0] ?_; (with_reducible refine (laws_sameFloat.calls k b_a0_0 a0_0 b_a1_0 a1_0 false _ ?b6 ?b7 A3.out).mono ?_); (case b6 => exact hF_a0_0); (case b7 => exact hF_a1_0); rintro e w' ⟨rfl, ⟨nd, rfl⟩⟩; refine ⟨_, rfl, ?_⟩))
  go_ret
  exact ⟨re_, hw_ HB⟩

end Go.Proofs.Ytkginilghcepbaa.QFnExactFirstOver
-- squeezed
