/- Lean functions that tell what the Go functions used by one law answer, and for each a proof that the Go code comes to just these answers; no condition. Printed by this session's own program over the kit's printer. -/
import Derived.Test.YtkginilghcepbaaWSq
import Derived.Test.YtkginilghcepbaaQFnMeansx0
namespace Go.Proofs.Ytkginilghcepbaa.QFnMeans
open Go.RowKit Go.Proofs.YtkginilghcepbaaW.PrintWords Go.Proofs.YtkginilghcepbaaW.PrintLast Go.Proofs.YtkginilghcepbaaW.PrintMore
attribute [local go_sem] max2_int min2_int max_two min_two max_three min_three max_four min_four   -- for this text's walks alone
attribute [local go_sem high] go_eql go_neq go_lss go_leq go_gtr go_geq go_store   -- for this text's walks alone
set_option linter.unusedVariables false
set_option linter.unusedSimpArgs false

/-! ### impl_FirstOver: function 29, with what it hands to slices.IndexFunc (74) and its literal (75); written by hand -/
def impl_FirstOver.l0 : Nat → List (S60) → Fl → Int → Option (Int)
 | 0, _, _, _ => none
 | k + 1, l, a, x => if x < (l.length : Int) then (if 0 ≤ x then (if (fcmp .gtr .f64 ((rd_T60 l x).f0) a) = true then (some x) else (impl_FirstOver.l0 k l a (wrap64 (x + 1)))) else (none)) else (some (-1))
def impl_FirstOver.f (k : Nat) (l0 : List (S60)) (a1 : Fl) : Option (Int) := impl_FirstOver.l0 k l0 a1 0
theorem impl_FirstOver.mono_l : ∀ k, (∀ y0 y1 y2, LeO (impl_FirstOver.l0 k y0 y1 y2) (impl_FirstOver.l0 (k + 1) y0 y1 y2))
 | 0 => fun _ _ _ r h => by simp [impl_FirstOver.l0] at h
 | k + 1 => by
  have b6 := impl_FirstOver.mono_l k
  ·intro y0 y1 y2
   unfold impl_FirstOver.l0
   repeat' first
   | (with_reducible exact b6 _ _ _)
   | (with_reducible exact LeO.refl _)
   | (with_reducible exact LeO.none _)
   | (with_reducible refine LeO.ite ?_ ?_)
   | exact b6 _ _ _
   | exact LeO.none _
   | refine LeO.ite ?_ ?_
theorem impl_FirstOver.mono : ∀ a0 a1 k, LeO (impl_FirstOver.f k a0 a1) (impl_FirstOver.f (k + 1) a0 a1) := fun a0 a1 k => impl_FirstOver.mono_l k a0 a1 0
set_option maxHeartbeats 8000000 in
set_option maxRecDepth 100000 in
theorem impl_FirstOver.lit (b0 b1 b2 b3 bs : Nat) (m0 a : Fl) (g : Nat) (w : World) (h0 : cn .f64 b0 = m0) (ha : cn .f64 bs = a) (hg : Aside0 (w.heap[g]? = some (.cells #[.float .f64 bs] 36 (0, 0)))) :
  Calls Try.prog 75 #[.agg #[.float .f64 b0, .float .f64 b1, .float .f64 b2, .float .f64 b3], .pointer (some ⟨g, 0, none⟩)] w fun e w' => e = .returned (.bool (fcmp .gtr .f64 m0 a)) ∧ Below w.heap.size w w' := by
 have huM := Try.underlying60
 have HB := mk_ (Below.refl w.heap.size w)
 go_enter Try.func75, Try.ntmps75
 go_wp2_with (first | ((with_reducible refine gd_ 2 rfl ?_); refine box_event ?hg (N := 2) ?hd (cs := #[.float .f64 b0, .float .f64 b1, .float .f64 b2, .float .f64 b3]) (t := 60) ?hr ?_; (case hd => rfl); (case hg => rfl); (case hr => exact hr_); intro gb hgb w1 hbox hb; have BK := mk_ hbox; have HG := bl_ hg hb; replace HB := bp_ HB hb; clear hbox hgb hb; have c0 := bc0_ BK; have f0 := bf_ BK 0; have cg := bc0_ HG; have fg := bf_ HG 0))
 go_ret
 exact ⟨re_, hw_ HB⟩
set_option maxHeartbeats 8000000 in
set_option maxRecDepth 100000 in
theorem impl_FirstOver.index (k : Nat) (A0 : Option Addr) (c0 : Nat) (l0 : List (S60)) (bs : Nat) (a : Fl) (g : Nat) (r : Int) (w : World) (hr0 : Kd.C k60 w A0 l0.length l0) (hc0 : l0.length ≤ c0) (ha : cn .f64 bs = a) (hg : Aside0 (w.heap[g]? = some (.cells #[.float .f64 bs] 36 (0, 0)))) (h : impl_FirstOver.f k l0 a = some r) :
  Calls Try.prog 74 #[.slice A0 l0.length c0, .func (.func 75) #[] #[.pointer (some ⟨g, 0, none⟩)]] w fun e w' => e = .returned (.int .i64 r) ∧ Below w.heap.size w w' := by
 have huM := Try.underlying60
 have a5 := mk_ hr0; have b7 := mk_ hc0; have HA_ := mk_ ha; clear hr0 hc0 ha; have HB := mk_ (Below.refl w.heap.size w)
 have H : (impl_FirstOver.l0 k l0 a 0) = some r := h
 clear h
 have H' := mk_ H
 clear H
 go_enter Try.func74, Try.ntmps74
 go_wp2
 go_loopg [8] k (fun kq v8 w' => ∃ (a2 : Int), v8 = .int .i64 a2 ∧ Aside0 (impl_FirstOver.l0 kq l0 a a2 = some r) ∧ Aside0 (kq ≤ k) ∧ Aside0 (Below w.heap.size w w'))
 case atStart => exact ⟨(0), rf_, H', ⟨Nat.le_refl _⟩, ⟨hw_ HB⟩⟩
 case round =>
  clear H'
  obtain ⟨a2, rfl, HA, b8, HB⟩ := hrel
  cases gk with
  | zero => exact absurd HA.out (by simp [impl_FirstOver.l0])
  | succ k1 =>
   have H := HA.out; clear HA
   simp only [impl_FirstOver.l0] at H
   by_cases c3 : a2 < (l0.length : Int)
   ·rw [if_pos c3] at H; have a6 : decide (a2 < (l0.length : Int)) = true := decide_eq_true c3; clear c3; by_cases c4 : 0 ≤ a2
    ·rw [if_pos c4] at H; have b9 : decide (0 ≤ a2) = true := decide_eq_true c4; clear c4
     have a3 : 0 ≤ (a2 : Int) := od_
     have a4 : a2 < (l0.length : Int) := od_
     obtain ⟨ad, b0, b1, b2, b3, a7, a8, a9, b4, b5, hF0, hF1, hF2, hF3⟩ := at_T60 a5.out a2 a3 a4; have HF0 := mk_ hF0; clear hF0 hF1 hF2 hF3; cases a7
     replace a8 := (HB.out.cell (World.block_lt_of_cell? w _ a8)).trans a8
     replace a9 := (HB.out.cell (World.block_lt_of_cell? w _ a9)).trans a9
     replace b4 := (HB.out.cell (World.block_lt_of_cell? w _ b4)).trans b4
     replace b5 := (HB.out.cell (World.block_lt_of_cell? w _ b5)).trans b5
     replace a3 := eq_true a3; replace a4 := eq_true a4; have HG := mk_ ((HB.out.block g (blk_lt hg.out)).trans hg.out); by_cases c7 : (fcmp .gtr .f64 ((rd_T60 l0 a2).f0) a) = true
     ·rw [if_pos c7] at H; obtain rfl := Option.some.inj H; have C7 := mk_ c7; clear c7
      go_wp2_with (first | (go_at_call 75; (with_reducible refine (impl_FirstOver.lit b0 b1 b2 b3 bs ((rd_T60 l0 a2).f0) a g _ HF0.out HA_.out HG).mono ?_); rintro e w8 ⟨rfl, hb⟩; rw [C7.out]; replace HB := bp_ HB hb; clear hb))
      go_ret
      exact ⟨re_, hw_ HB⟩
     ·rw [if_neg c7] at H; have C7 := mk_ (Bool.eq_false_iff.mpr c7); clear c7
      have H' := mk_ H
      clear H
      go_wp2_with (first | (go_at_call 75; (with_reducible refine (impl_FirstOver.lit b0 b1 b2 b3 bs ((rd_T60 l0 a2).f0) a g _ HF0.out HA_.out HG).mono ?_); rintro e w8 ⟨rfl, hb⟩; rw [C7.out]; replace HB := bp_ HB hb; clear hb))
      go_roundg k1
      case measure => have := b8.out; omega
      case rel => exact ⟨(wrap64 (a2 + 1)), rf_, H', ⟨by have := b8.out; omega⟩, ⟨hw_ HB⟩⟩
    ·rw [if_neg c4] at H
     exact absurd H (by simp)
   ·rw [if_neg c3] at H; have a6 : decide (a2 < (l0.length : Int)) = false := decide_eq_false c3; clear c3; obtain rfl := Option.some.inj H; go_wp2; go_ret
    exact ⟨re_, hw_ HB⟩
set_option maxHeartbeats 8000000 in
set_option maxRecDepth 100000 in
theorem impl_FirstOver.calls (k : Nat) (A0 : Option Addr) (c0 : Nat) (l0 : List (S60)) (b_a1 : Nat) (a1 : Fl) (r : Int) (w : World) (hr0 : Kd.C k60 w A0 l0.length l0) (hc0 : l0.length ≤ c0) (hF_a1 : cn .f64 b_a1 = a1) (h : impl_FirstOver.f k l0 a1 = some r) :
  Calls Try.prog 29 #[.slice A0 l0.length c0, .float .f64 b_a1] w fun e w' => e = .returned (.int .i64 r) ∧ Below w.heap.size w w' := by
 have hmf : ∀ (fn : Fn) (first cap : Array Value) (w : World), (Instr.makeFunc fn first cap).run Try.prog w = .ok (.func fn first cap) w := fun _ _ _ _ => rfl
 have a5 := mk_ hr0; have b7 := mk_ hc0; have HF := mk_ hF_a1; have HH := mk_ h; clear hr0 hc0 hF_a1 h; have HB := mk_ (Below.refl w.heap.size w)
 go_enter Try.func29, Try.ntmps29
 go_wp2_with (first | ((with_reducible refine gd_ 3 rfl ?_); refine box_event ?hg (N := 3) ?hd (cs := #[.float .f64 b_a1]) (t := 36) ?hr ?_; (case hd => rfl); (case hg => rfl); (case hr => exact hr_); intro gb hgb w1 hbox hb; have BK := mk_ hbox; have c1 := mk_ (Kd.C_below a5.out hb); replace HB := bp_ HB hb; clear hbox hgb hb) | (go_at_call 74; (with_reducible refine (impl_FirstOver.index k _ _ l0 b_a1 a1 gb r _ c1.out b7.out HF.out BK HH.out).mono ?_); rintro e w2 ⟨rfl, hb⟩; replace HB := bp_ HB hb; clear hb))
 go_ret
 exact ⟨re_, hw_ HB⟩

end Go.Proofs.Ytkginilghcepbaa.QFnMeans
-- squeezed
