/- Lean functions that tell what the Go functions used by one law answer, and for each a proof that the Go code comes to just these answers; no condition. Printed by this session's own program over the kit's printer. -/
import Derived.Test.YtnphbpkpjinddaaWSq
import Derived.Test.YtnphbpkpjinddaaQFnExactClearsx0
import Derived.Test.YtnphbpkpjinddaaQFnExactClearsx2
namespace Go.Proofs.Ytnphbpkpjinddaa.QFnExactClears
open Go.RowKit Go.Proofs.YtnphbpkpjinddaaW.PrintWords Go.Proofs.YtnphbpkpjinddaaW.PrintLast Go.Proofs.YtnphbpkpjinddaaW.PrintMore
attribute [local go_sem] max2_int min2_int max_two min_two max_three min_three max_four min_four   -- for this text's walks alone
attribute [local go_sem high] go_eql go_neq go_lss go_leq go_gtr go_geq go_store   -- for this text's walks alone
set_option linter.unusedVariables false
set_option linter.unusedSimpArgs false

/-! ### impl_Clears: function 56, with what it hands to slices.IndexFunc (112) and slices.ContainsFunc (110) and its literals (111, 113); written by hand -/
def impl_Clears.in_ (a b c : Int) : Bool := if a ≥ b then decide (a ≤ c) else false
theorem impl_Clears.in_f (a b c : Int) : impl_in.f a b c = some (impl_Clears.in_ a b c) := by
 unfold impl_in.f impl_Clears.in_
 split <;> rfl
def impl_Clears.bad (p0 p1 : Int) : Bool := !(impl_Clears.in_ p0 0 12000) || !(impl_Clears.in_ p1 0 1000000)
def impl_Clears.l0 : Nat → List (S134) → Int → Option (Int)
 | 0, _, _ => none
 | k + 1, l, x => if x < (l.length : Int) then (if 0 ≤ x then (if impl_Clears.bad ((rd_T134 l x).f0) ((rd_T134 l x).f1) = true then (some x) else (impl_Clears.l0 k l (wrap64 (x + 1)))) else (none)) else (some (-1))
def impl_Clears.l1 : Nat → Int → List (S137) → Int → List (S134) → Int → Option (Int)
 | 0, _, _, _, _, _ => none
 | k + 1, s, q, m, l, x => if x < (l.length : Int) then (if 0 ≤ x then ((impl_heightAt.f k s q ((rd_T134 l x).f0)).bind fun t => (if decide (wrap64 (t - (rd_T134 l x).f1) < m) = true then (some x) else (impl_Clears.l1 k s q m l (wrap64 (x + 1))))) else (none)) else (some (-1))
def impl_Clears.go (ok : Bool) (i : Int) (n : Nat) (m : Int) : Bool := ok && (!decide (0 ≤ i)) && (!decide (20 < (n : Int))) && impl_Clears.in_ m 0 1000
def impl_Clears.f (k : Nat) (a0 : Int) (l1 : List (S137)) (l2 : List (S134)) (a3 : Int) : Option (Int × Bool) :=
 (impl_Clears.l0 k l2 0).bind fun i => (impl_Climbs.f k a0 l1).bind fun c => if impl_Clears.go c.2 i l2.length a3 = true then ((impl_Clears.l1 k a0 l1 a3 l2 0).bind fun j => some (j, true)) else some (-2, false)
theorem impl_Clears.mono_l0 : ∀ k, (∀ y0 y1, LeO (impl_Clears.l0 k y0 y1) (impl_Clears.l0 (k + 1) y0 y1))
 | 0 => fun _ _ r h => by simp [impl_Clears.l0] at h
 | k + 1 => by
  have g9 := impl_Clears.mono_l0 k
  ·intro y0 y1
   unfold impl_Clears.l0
   repeat' first
   | (with_reducible exact g9 _ _)
   | (with_reducible exact LeO.refl _)
   | (with_reducible exact LeO.none _)
   | (with_reducible refine LeO.ite ?_ ?_)
   | exact g9 _ _
   | exact LeO.none _
   | refine LeO.ite ?_ ?_
theorem impl_Clears.mono_l1 : ∀ k, (∀ y0 y1 y2 y3 y4, LeO (impl_Clears.l1 k y0 y1 y2 y3 y4) (impl_Clears.l1 (k + 1) y0 y1 y2 y3 y4))
 | 0 => fun _ _ _ _ _ r h => by simp [impl_Clears.l1] at h
 | k + 1 => by
  have g9 := impl_Clears.mono_l1 k
  ·intro y0 y1 y2 y3 y4
   unfold impl_Clears.l1
   repeat' first
   | (with_reducible exact g9 _ _ _ _ _)
   | (with_reducible exact impl_heightAt.mono _ _ _ _)
   | (with_reducible exact LeO.refl _)
   | (with_reducible exact LeO.none _)
   | (with_reducible refine LeO.ite ?_ ?_)
   | (with_reducible refine LeO.bind ?_ (fun _ => ?_))
   | exact g9 _ _ _ _ _
   | exact impl_heightAt.mono _ _ _ _
   | exact LeO.none _
   | refine LeO.ite ?_ ?_
   | refine LeO.bind ?_ (fun _ => ?_)
theorem impl_Clears.mono : ∀ a0 a1 a2 a3 k, LeO (impl_Clears.f k a0 a1 a2 a3) (impl_Clears.f (k + 1) a0 a1 a2 a3) := by
 intro a0 a1 a2 a3 k
 unfold impl_Clears.f
 refine LeO.bind (impl_Clears.mono_l0 _ _ _) (fun _ => ?_)
 refine LeO.bind (impl_Climbs.mono _ _ _) (fun _ => ?_)
 refine LeO.ite ?_ ?_
 ·exact LeO.bind (impl_Clears.mono_l1 _ _ _ _ _ _) (fun _ => LeO.refl _)
 ·exact LeO.refl _
set_option maxHeartbeats 8000000 in
set_option maxRecDepth 100000 in
theorem impl_Clears.lit (p0 p1 : Int) (w : World) :
  Calls Try.prog 111 #[.agg #[.int .i64 p0, .int .i64 p1]] w fun e w' => e = .returned (.bool (impl_Clears.bad p0 p1)) ∧ Below w.heap.size w w' := by
 have g8 := Try.underlying134
 have HB := mk_ (Below.refl w.heap.size w)
 have A1 := impl_Clears.in_f p0 0 12000
 have A2 := impl_Clears.in_f p1 0 1000000
 unfold impl_Clears.bad
 generalize impl_Clears.in_ p0 0 12000 = t1 at A1 ⊢
 generalize impl_Clears.in_ p1 0 1000000 = t2 at A2 ⊢
 have A1 := mk_ A1; have A2 := mk_ A2
 cases t1
 ·go_enter Try.func111, Try.ntmps111
  go_wp2_with (first | ((with_reducible refine gd_ 1 rfl ?_); refine box_event ?hg (N := 1) ?hd (cs := #[.int .i64 p0, .int .i64 p1]) (t := 134) ?hr ?_; (case hd => rfl); (case hg => rfl); (case hr => exact hr_); intro gb hgb w1 hbox hb; have BK := mk_ hbox; replace HB := bp_ HB hb; clear hbox hgb hb; have c0 := bc0_ BK; have c1 := bc1_ BK; have f0 := bf_ BK 0; have f1 := bf_ BK 1) | (go_at_call 76; (with_reducible refine (impl_in.calls p0 0 12000 false _ A1.out).mono ?_); rintro e w' ⟨rfl, ⟨nd, rfl⟩⟩))
  go_ret
  exact ⟨re_, hw_ HB⟩
 ·go_enter Try.func111, Try.ntmps111
  go_wp2_with (first | ((with_reducible refine gd_ 1 rfl ?_); refine box_event ?hg (N := 1) ?hd (cs := #[.int .i64 p0, .int .i64 p1]) (t := 134) ?hr ?_; (case hd => rfl); (case hg => rfl); (case hr => exact hr_); intro gb hgb w1 hbox hb; have BK := mk_ hbox; replace HB := bp_ HB hb; clear hbox hgb hb; have c0 := bc0_ BK; have c1 := bc1_ BK; have f0 := bf_ BK 0; have f1 := bf_ BK 1) | ((with_reducible refine gate_callee (f := 76) rfl ?_); refine goesL_ (some 5) rfl rfl Try.func76 (by kernel_rfl) rfl #[.int .i64 p0, .int .i64 0, .int .i64 12000] rfl (by (try simp only [List.map_toArray, List.map_cons, List.map_nil]); first | done | rfl) ?_; (with_reducible refine (impl_in.calls p0 0 12000 true _ A1.out).mono ?_); rintro e w' ⟨rfl, ⟨nd, rfl⟩⟩; refine ⟨_, rfl, ?_⟩) | (go_at_call 76; (with_reducible refine (impl_in.calls p1 0 1000000 t2 _ A2.out).mono ?_); rintro e w' ⟨rfl, ⟨nd, rfl⟩⟩))
  go_ret
  exact ⟨re_, hw_ HB⟩
set_option maxHeartbeats 8000000 in
set_option maxRecDepth 100000 in
theorem impl_Clears.index (k : Nat) (A0 : Option Addr) (c0 : Nat) (l0 : List (S134)) (r : Int) (w : World) (hr0 : Kd.C k134 w A0 l0.length l0) (hc0 : l0.length ≤ c0) (h : impl_Clears.l0 k l0 0 = some r) :
  Calls Try.prog 112 #[.slice A0 l0.length c0, .func (.func 111) #[] #[]] w fun e w' => e = .returned (.int .i64 r) ∧ Below w.heap.size w w' := by
 have g8 := Try.underlying134
 have l5 := mk_ hr0; have o6 := mk_ hc0; clear hr0 hc0; have HB := mk_ (Below.refl w.heap.size w)
 have H' := mk_ h
 clear h
 go_enter Try.func112, Try.ntmps112
 go_wp2
 go_loopg [8] k (fun kq v8 w' => ∃ (a5 : Int), v8 = .int .i64 a5 ∧ Aside0 (impl_Clears.l0 kq l0 a5 = some r) ∧ Aside0 (kq ≤ k) ∧ Aside0 (Below w.heap.size w w'))
 case atStart => exact ⟨(0), rf_, H', ⟨Nat.le_refl _⟩, ⟨hw_ HB⟩⟩
 case round =>
  clear H'
  obtain ⟨a5, rfl, HA, l6, HB⟩ := hrel
  cases gk with
  | zero => exact absurd HA.out (by simp [impl_Clears.l0])
  | succ k1 =>
   have H := HA.out; clear HA
   simp only [impl_Clears.l0] at H
   by_cases c3 : a5 < (l0.length : Int)
   ·rw [if_pos c3] at H; have c9 : decide (a5 < (l0.length : Int)) = true := decide_eq_true c3; clear c3; by_cases c4 : 0 ≤ a5
    ·rw [if_pos c4] at H; have d7 : decide (0 ≤ a5) = true := decide_eq_true c4; clear c4
     have d8 : 0 ≤ (a5 : Int) := od_
     have d9 : a5 < (l0.length : Int) := od_
     obtain ⟨ad, m6, m7, h5⟩ := at_T134 l5.out a5 d8 d9; cases m6
     replace m7 := (HB.out.cell (World.block_lt_of_cell? w _ m7)).trans m7
     replace h5 := (HB.out.cell (World.block_lt_of_cell? w _ h5)).trans h5
     replace d8 := eq_true d8; replace d9 := eq_true d9; by_cases c7 : impl_Clears.bad ((rd_T134 l0 a5).f0) ((rd_T134 l0 a5).f1) = true
     ·rw [if_pos c7] at H; obtain rfl := Option.some.inj H; have C7 := mk_ c7; clear c7
      go_wp2_with (first | (go_at_call 111; (with_reducible refine (impl_Clears.lit ((rd_T134 l0 a5).f0) ((rd_T134 l0 a5).f1) _).mono ?_); rintro e w8 ⟨rfl, hb⟩; rw [C7.out]; replace HB := bp_ HB hb; clear hb))
      go_ret
      exact ⟨re_, hw_ HB⟩
     ·rw [if_neg c7] at H; have C7 := mk_ (Bool.eq_false_iff.mpr c7); clear c7
      have H' := mk_ H
      clear H
      go_wp2_with (first | (go_at_call 111; (with_reducible refine (impl_Clears.lit ((rd_T134 l0 a5).f0) ((rd_T134 l0 a5).f1) _).mono ?_); rintro e w8 ⟨rfl, hb⟩; rw [C7.out]; replace HB := bp_ HB hb; clear hb))
      go_roundg k1
      case measure => have := l6.out; omega
      case rel => exact ⟨(wrap64 (a5 + 1)), rf_, H', ⟨by have := l6.out; omega⟩, ⟨hw_ HB⟩⟩
    ·rw [if_neg c4] at H
     exact absurd H (by simp)
   ·rw [if_neg c3] at H; have c9 : decide (a5 < (l0.length : Int)) = false := decide_eq_false c3; clear c3; obtain rfl := Option.some.inj H; go_wp2; go_ret
    exact ⟨re_, hw_ HB⟩
set_option maxHeartbeats 8000000 in
set_option maxRecDepth 100000 in
theorem impl_Clears.lit2 (k : Nat) (s : Int) (A1 : Option Addr) (c1 : Nat) (q : List (S137)) (m : Int) (g1 g2 g3 : Nat) (p0 p1 t : Int) (w : World) (hr1 : Kd.C k137 w A1 q.length q) (hc1 : q.length ≤ c1)
  (h1 : Aside0 (w.heap[g1]? = some (.cells #[.int .i64 s] 3 (0, 0)))) (h2 : Aside0 (w.heap[g2]? = some (.cells #[.slice A1 q.length c1] 91 (0, 0)))) (h3 : Aside0 (w.heap[g3]? = some (.cells #[.int .i64 m] 3 (0, 0)))) (h : impl_heightAt.f k s q p0 = some t) :
  Calls Try.prog 113 #[.agg #[.int .i64 p0, .int .i64 p1], .pointer (some ⟨g1, 0, none⟩), .pointer (some ⟨g2, 0, none⟩), .pointer (some ⟨g3, 0, none⟩)] w fun e w' => e = .returned (.bool (decide (wrap64 (t - p1) < m))) ∧ Below w.heap.size w w' := by
 have g8 := Try.underlying134
 have l7 := Try.underlying137
 have o7 := Try.underlying91
 have HR := mk_ hr1; have HC := mk_ hc1; have HH := mk_ h; clear hr1 hc1 h; have HB := mk_ (Below.refl w.heap.size w)
 go_enter Try.func113, Try.ntmps113
 try go_wp2_with (first | ((with_reducible refine gd_ 4 rfl ?_); refine box_event ?hg (N := 4) ?hd (cs := #[.int .i64 p0, .int .i64 p1]) (t := 134) ?hr ?_; (case hd => rfl); (case hg => rfl); (case hr => exact hr_); intro gb hgb w1 hbox hb; have BK := mk_ hbox; have H1 := bl_ h1 hb; have H2 := bl_ h2 hb; have H3 := bl_ h3 hb; have d6 := mk_ (Kd.C_below HR.out hb); replace HB := bp_ HB hb; clear hbox hgb hb))
 replace BK := dB_ BK
 replace H1 := dB_ H1
 replace H2 := dB_ H2
 replace H3 := dB_ H3
 replace HB := dH_ HB
 replace d6 := mk_ (Kd.C_drew d6.out)
 refine start_ (n := 11) (S := fun w' => w'.cell? ⟨g1, 0, none⟩ = some (.int .i64 s) ∧ w'.cell? ⟨g2, 0, none⟩ = some (.slice A1 q.length c1) ∧ w'.cell? ⟨g3, 0, none⟩ = some (.int .i64 m) ∧ w'.cell? ⟨gb, 0, none⟩ = some (.int .i64 p0) ∧ w'.cell? ⟨gb, 1, none⟩ = some (.int .i64 p1)) (ds := []) (bs_ 11 0) (by kernel_rfl) rfl (by kernel_rfl) ⟨bc0_ H1, bc0_ H2, bc0_ H3, bc0_ BK, bc1_ BK⟩ (fun hHeld => ?_)
 generalize w1.drew = w2 at BK H1 H2 H3 HB d6 hHeld ⊢
 refine pu0_ 2 8 (bs_ 11 4) ?_; refine pu0_ 5 11 (bs_ 11 36) ?_; refine tk0_ 0 6 (bs_ 11 37) hHeld ?_; refine tk0_ 1 7 (bs_ 11 39) hHeld ?_; refine tk0_ 3 9 (bs_ 11 47) hHeld ?_; refine tk0_ 6 12 (bs_ 11 111) hHeld ?_; refine tk0_ 8 14 (bs_ 11 367) hHeld ?_
 refine one_ (i := 4) (N := some 10) (bs_ 11 383) rfl rfl (by kernel_rfl) (by decide) (fun K hK => ?_)
 refine gs_ Try.func114 #[.int .i64 s, .slice A1 q.length c1, .int .i64 p0] ?_
 with_reducible refine (impl_heightAt.calls k s A1 c1 q p0 t _ d6.out HC.out HH.out).mono ?_
 rintro e w4 ⟨rfl, hb⟩
 refine ⟨_, rfl, ?_⟩
 replace H1 := bl_ H1 hb
 replace H2 := bl_ H2 hb
 replace H3 := bl_ H3 hb
 replace BK := bl_ BK hb
 replace HB := hk_ HB hb
 clear hb
 refine hK.out _ _ ⟨bc0_ H1, bc0_ H2, bc0_ H3, bc0_ BK, bc1_ BK⟩ (fun hHeld => ?_)
 clear hK K; refine nm_ 10 ?_; refine pu0_ 7 13 (bs_ 11 511) ?_; refine pu0_ 9 15 (bs_ 11 1023) ?_; refine pu0_ 10 5 (bs_ 11 2047) ?_
 refine done_ (by kernel_rfl) ?_
 try go_wp2
 go_ret
 exact ⟨re_, hw_ HB⟩
set_option maxHeartbeats 8000000 in
set_option maxRecDepth 100000 in
theorem impl_Clears.index2 (k : Nat) (s : Int) (A1 : Option Addr) (c1 : Nat) (q : List (S137)) (m : Int) (g1 g2 g3 : Nat) (A0 : Option Addr) (c0 : Nat) (l0 : List (S134)) (r : Int) (w : World) (hr0 : Kd.C k134 w A0 l0.length l0) (hc0 : l0.length ≤ c0) (HR : Aside0 (Kd.C k137 w A1 q.length q)) (HC1 : Aside0 (q.length ≤ c1)) (h1 : Aside0 (w.heap[g1]? = some (.cells #[.int .i64 s] 3 (0, 0)))) (h2 : Aside0 (w.heap[g2]? = some (.cells #[.slice A1 q.length c1] 91 (0, 0)))) (h3 : Aside0 (w.heap[g3]? = some (.cells #[.int .i64 m] 3 (0, 0)))) (h : impl_Clears.l1 k s q m l0 0 = some r) :
  Calls Try.prog 112 #[.slice A0 l0.length c0, .func (.func 113) #[] #[.pointer (some ⟨g1, 0, none⟩), .pointer (some ⟨g2, 0, none⟩), .pointer (some ⟨g3, 0, none⟩)]] w fun e w' => e = .returned (.int .i64 r) ∧ Below w.heap.size w w' := by
 have g8 := Try.underlying134
 have l5 := mk_ hr0; have o6 := mk_ hc0; clear hr0 hc0; have HB := mk_ (Below.refl w.heap.size w)
 have H' := mk_ h
 clear h
 go_enter Try.func112, Try.ntmps112
 go_wp2
 go_loopg [8] k (fun kq v8 w' => ∃ (a5 : Int), v8 = .int .i64 a5 ∧ Aside0 (impl_Clears.l1 kq s q m l0 a5 = some r) ∧ Aside0 (kq ≤ k) ∧ Aside0 (Below w.heap.size w w'))
 case atStart => exact ⟨(0), rf_, H', ⟨Nat.le_refl _⟩, ⟨hw_ HB⟩⟩
 case round =>
  clear H'
  obtain ⟨a5, rfl, HA, l6, HB⟩ := hrel
  cases gk with
  | zero => exact absurd HA.out (by simp [impl_Clears.l1])
  | succ k1 =>
   have H := HA.out; clear HA
   simp only [impl_Clears.l1] at H
   by_cases c3 : a5 < (l0.length : Int)
   ·rw [if_pos c3] at H; have c9 : decide (a5 < (l0.length : Int)) = true := decide_eq_true c3; clear c3; by_cases c4 : 0 ≤ a5
    ·rw [if_pos c4] at H; have d7 : decide (0 ≤ a5) = true := decide_eq_true c4; clear c4
     have d8 : 0 ≤ (a5 : Int) := od_
     have d9 : a5 < (l0.length : Int) := od_
     obtain ⟨ad, m6, m7, h5⟩ := at_T134 l5.out a5 d8 d9; cases m6
     replace m7 := (HB.out.cell (World.block_lt_of_cell? w _ m7)).trans m7
     replace h5 := (HB.out.cell (World.block_lt_of_cell? w _ h5)).trans h5
     replace d8 := eq_true d8; replace d9 := eq_true d9; replace H := Option.bind_eq_some_iff.mp H; obtain ⟨t, A7, H⟩ := H; have A7 := mk_ A7; have d6 := mk_ (Kd.C_below HR.out HB.out); have HG1 := mk_ ((HB.out.block g1 (blk_lt h1.out)).trans h1.out); have HG2 := mk_ ((HB.out.block g2 (blk_lt h2.out)).trans h2.out); have HG3 := mk_ ((HB.out.block g3 (blk_lt h3.out)).trans h3.out); by_cases c7 : decide (wrap64 (t - (rd_T134 l0 a5).f1) < m) = true
     ·rw [if_pos c7] at H; obtain rfl := Option.some.inj H; have C7 := mk_ c7; clear c7
      go_wp2_with (first | (go_at_call 113; (with_reducible refine (impl_Clears.lit2 k1 s A1 c1 q m g1 g2 g3 ((rd_T134 l0 a5).f0) ((rd_T134 l0 a5).f1) t _ d6.out HC1.out HG1 HG2 HG3 A7.out).mono ?_); rintro e w8 ⟨rfl, hb⟩; rw [C7.out]; replace HB := bp_ HB hb; clear hb))
      go_ret
      exact ⟨re_, hw_ HB⟩
     ·rw [if_neg c7] at H; have C7 := mk_ (Bool.eq_false_iff.mpr c7); clear c7
      have H' := mk_ H
      clear H
      go_wp2_with (first | (go_at_call 113; (with_reducible refine (impl_Clears.lit2 k1 s A1 c1 q m g1 g2 g3 ((rd_T134 l0 a5).f0) ((rd_T134 l0 a5).f1) t _ d6.out HC1.out HG1 HG2 HG3 A7.out).mono ?_); rintro e w8 ⟨rfl, hb⟩; rw [C7.out]; replace HB := bp_ HB hb; clear hb))
      go_roundg k1
      case measure => have := l6.out; omega
      case rel => exact ⟨(wrap64 (a5 + 1)), rf_, H', ⟨by have := l6.out; omega⟩, ⟨hw_ HB⟩⟩
    ·rw [if_neg c4] at H
     exact absurd H (by simp)
   ·rw [if_neg c3] at H; have c9 : decide (a5 < (l0.length : Int)) = false := decide_eq_false c3; clear c3; obtain rfl := Option.some.inj H; go_wp2; go_ret
    exact ⟨re_, hw_ HB⟩
set_option maxHeartbeats 8000000 in
set_option maxRecDepth 100000 in
theorem impl_Clears.contains (k : Nat) (A0 : Option Addr) (c0 : Nat) (l0 : List (S134)) (r : Int) (w : World) (hr0 : Kd.C k134 w A0 l0.length l0) (hc0 : l0.length ≤ c0) (h : impl_Clears.l0 k l0 0 = some r) :
  Calls Try.prog 110 #[.slice A0 l0.length c0, .func (.func 111) #[] #[]] w fun e w' => e = .returned (.bool (decide (0 ≤ r))) ∧ Below w.heap.size w w' := by
 have l5 := mk_ hr0; have o6 := mk_ hc0; have HH := mk_ h; clear hr0 hc0 h; have HB := mk_ (Below.refl w.heap.size w)
 go_enter Try.func110, Try.ntmps110
 go_wp2_with (first | (go_at_call 112; (with_reducible refine (impl_Clears.index k _ _ l0 r _ l5.out o6.out HH.out).mono ?_); rintro e w2 ⟨rfl, hb⟩; replace HB := bp_ HB hb; clear hb))
 go_ret
 exact ⟨re_, hw_ HB⟩
set_option maxHeartbeats 8000000 in
set_option maxRecDepth 100000 in
theorem impl_Clears.calls (k : Nat) (a0 : Int) (A1 : Option Addr) (c1 : Nat) (l1 : List (S137)) (A2 : Option Addr) (c2 : Nat) (l2 : List (S134)) (a3 : Int) (r1 : Int) (r2 : Bool) (w : World) (hr1 : Kd.C k137 w A1 l1.length l1) (hc1 : l1.length ≤ c1) (hr2 : Kd.C k134 w A2 l2.length l2) (hc2 : l2.length ≤ c2) (h : impl_Clears.f k a0 l1 l2 a3 = some (r1, r2)) :
  Calls Try.prog 56 #[.int .i64 a0, .slice A1 l1.length c1, .slice A2 l2.length c2, .int .i64 a3] w fun e w' => e = .returned (.tuple #[.int .i64 r1, .bool r2]) ∧ Below w.heap.size w w' := by
 have hmf : ∀ (fn : Fn) (first cap : Array Value) (w : World), (Instr.makeFunc fn first cap).run Try.prog w = .ok (.func fn first cap) w := fun _ _ _ _ => rfl
 have o7 := Try.underlying91
 have d6 := mk_ hr1; have HC1 := mk_ hc1; have o1 := mk_ hr2; have o0 := mk_ hc2; clear hr1 hc1 hr2 hc2; have HB := mk_ (Below.refl w.heap.size w)
 unfold impl_Clears.f at h
 obtain ⟨i, hi, h⟩ := Option.bind_eq_some_iff.mp h
 obtain ⟨⟨cl, co⟩, hcl, h⟩ := Option.bind_eq_some_iff.mp h
 have HI := mk_ hi; have HCl := mk_ hcl; clear hi hcl
 have hin := impl_Clears.in_f a3 0 1000
 obtain ⟨t3, ht3⟩ : ∃ t, t = impl_Clears.in_ a3 0 1000 := ⟨_, rfl⟩
 rw [← ht3] at hin
 replace h : (if (co && (!decide (0 ≤ i)) && (!decide (20 < (l2.length : Int))) && t3) = true then ((impl_Clears.l1 k a0 l1 a3 l2 0).bind fun j => some (j, true)) else some (-2, false)) = some (r1, r2) := by rw [ht3]; exact h
 clear ht3; have HIn := mk_ hin; clear hin
 cases co
 ·simp only [Bool.false_and, Bool.false_eq_true, if_false, Option.some.injEq, Prod.mk.injEq] at h
  obtain ⟨rfl, rfl⟩ := h
  clear HIn
  go_enter Try.func56, Try.ntmps56
  go_wp2_with (first | ((with_reducible refine gd_ 4 rfl ?_); refine box_event ?hg (N := 4) ?hd (cs := #[.int .i64 a0]) (t := 3) ?hr ?_; (case hd => rfl); (case hg => rfl); (case hr => exact hr_); intro g1 hgb w_ hbox hb; have G1 := mk_ hbox; have R1 := mk_ (Kd.C_below d6.out hb); have R2 := mk_ (Kd.C_below o1.out hb); replace HB := bp_ HB hb; clear hbox hgb hb) | ((with_reducible refine gd_ 5 rfl ?_); refine box_event ?hg (N := 5) ?hd (cs := #[.slice A1 l1.length c1]) (t := 91) ?hr ?_; (case hd => rfl); (case hg => rfl); (case hr => exact hr_); intro g2 hgb w_ hbox hb; have G2 := mk_ hbox; replace G1 := bl_ G1 hb; replace R1 := mk_ (Kd.C_below R1.out hb); replace R2 := mk_ (Kd.C_below R2.out hb); replace HB := bp_ HB hb; clear hbox hgb hb) | ((with_reducible refine gd_ 7 rfl ?_); refine box_event ?hg (N := 7) ?hd (cs := #[.int .i64 a3]) (t := 3) ?hr ?_; (case hd => rfl); (case hg => rfl); (case hr => exact hr_); intro g3 hgb w_ hbox hb; have G3 := mk_ hbox; replace G1 := bl_ G1 hb; replace G2 := bl_ G2 hb; replace R1 := mk_ (Kd.C_below R1.out hb); replace R2 := mk_ (Kd.C_below R2.out hb); replace HB := bp_ HB hb; clear hbox hgb hb) | (go_at_call 110; (with_reducible refine (impl_Clears.contains k _ _ l2 i _ R2.out o0.out HI.out).mono ?_); rintro e w_ ⟨rfl, hb⟩; replace G1 := bl_ G1 hb; replace G2 := bl_ G2 hb; replace G3 := bl_ G3 hb; replace R1 := mk_ (Kd.C_below R1.out hb); replace R2 := mk_ (Kd.C_below R2.out hb); replace HB := bp_ HB hb; clear hb; have k1 := bc0_ G1; have k2 := bc0_ G2) | (go_at_call 60; (with_reducible refine (impl_Climbs.calls k a0 _ _ l1 cl _ _ R1.out HC1.out HCl.out).mono ?_); rintro e w_ ⟨v0_, rfl, -, hb⟩; replace G1 := bl_ G1 hb; replace G2 := bl_ G2 hb; replace G3 := bl_ G3 hb; replace R1 := mk_ (Kd.C_below R1.out hb); replace R2 := mk_ (Kd.C_below R2.out hb); replace HB := bp_ HB hb; clear hb; have k3 := bc0_ G3))
  go_ret2
  exact ⟨re_, hw_ HB⟩
 by_cases d1 : 0 ≤ i
 ·have d1b : decide (0 ≤ i) = true := decide_eq_true d1
  clear d1
  simp only [d1b, Bool.not_true, Bool.and_false, Bool.false_and, Bool.false_eq_true, if_false, Option.some.injEq, Prod.mk.injEq] at h
  obtain ⟨rfl, rfl⟩ := h
  clear HIn
  go_enter Try.func56, Try.ntmps56
  go_wp2_with (first | ((with_reducible refine gd_ 4 rfl ?_); refine box_event ?hg (N := 4) ?hd (cs := #[.int .i64 a0]) (t := 3) ?hr ?_; (case hd => rfl); (case hg => rfl); (case hr => exact hr_); intro g1 hgb w_ hbox hb; have G1 := mk_ hbox; have R1 := mk_ (Kd.C_below d6.out hb); have R2 := mk_ (Kd.C_below o1.out hb); replace HB := bp_ HB hb; clear hbox hgb hb) | ((with_reducible refine gd_ 5 rfl ?_); refine box_event ?hg (N := 5) ?hd (cs := #[.slice A1 l1.length c1]) (t := 91) ?hr ?_; (case hd => rfl); (case hg => rfl); (case hr => exact hr_); intro g2 hgb w_ hbox hb; have G2 := mk_ hbox; replace G1 := bl_ G1 hb; replace R1 := mk_ (Kd.C_below R1.out hb); replace R2 := mk_ (Kd.C_below R2.out hb); replace HB := bp_ HB hb; clear hbox hgb hb) | ((with_reducible refine gd_ 7 rfl ?_); refine box_event ?hg (N := 7) ?hd (cs := #[.int .i64 a3]) (t := 3) ?hr ?_; (case hd => rfl); (case hg => rfl); (case hr => exact hr_); intro g3 hgb w_ hbox hb; have G3 := mk_ hbox; replace G1 := bl_ G1 hb; replace G2 := bl_ G2 hb; replace R1 := mk_ (Kd.C_below R1.out hb); replace R2 := mk_ (Kd.C_below R2.out hb); replace HB := bp_ HB hb; clear hbox hgb hb) | (go_at_call 110; (with_reducible refine (impl_Clears.contains k _ _ l2 i _ R2.out o0.out HI.out).mono ?_); rintro e w_ ⟨rfl, hb⟩; replace G1 := bl_ G1 hb; replace G2 := bl_ G2 hb; replace G3 := bl_ G3 hb; replace R1 := mk_ (Kd.C_below R1.out hb); replace R2 := mk_ (Kd.C_below R2.out hb); replace HB := bp_ HB hb; clear hb; have k1 := bc0_ G1; have k2 := bc0_ G2) | (go_at_call 60; (with_reducible refine (impl_Climbs.calls k a0 _ _ l1 cl _ _ R1.out HC1.out HCl.out).mono ?_); rintro e w_ ⟨v0_, rfl, -, hb⟩; replace G1 := bl_ G1 hb; replace G2 := bl_ G2 hb; replace G3 := bl_ G3 hb; replace R1 := mk_ (Kd.C_below R1.out hb); replace R2 := mk_ (Kd.C_below R2.out hb); replace HB := bp_ HB hb; clear hb; have k3 := bc0_ G3))
  go_ret2
  exact ⟨re_, hw_ HB⟩
 have d1b : decide (0 ≤ i) = false := decide_eq_false d1
 clear d1; by_cases d2 : (20 : Int) < (l2.length : Int)
 ·have d2b : decide ((20 : Int) < (l2.length : Int)) = true := decide_eq_true d2
  clear d2
  simp only [d1b, d2b, Bool.not_true, Bool.and_false, Bool.false_and, Bool.false_eq_true, if_false, Option.some.injEq, Prod.mk.injEq] at h
  obtain ⟨rfl, rfl⟩ := h
  clear HIn
  go_enter Try.func56, Try.ntmps56
  go_wp2_with (first | ((with_reducible refine gd_ 4 rfl ?_); refine box_event ?hg (N := 4) ?hd (cs := #[.int .i64 a0]) (t := 3) ?hr ?_; (case hd => rfl); (case hg => rfl); (case hr => exact hr_); intro g1 hgb w_ hbox hb; have G1 := mk_ hbox; have R1 := mk_ (Kd.C_below d6.out hb); have R2 := mk_ (Kd.C_below o1.out hb); replace HB := bp_ HB hb; clear hbox hgb hb) | ((with_reducible refine gd_ 5 rfl ?_); refine box_event ?hg (N := 5) ?hd (cs := #[.slice A1 l1.length c1]) (t := 91) ?hr ?_; (case hd => rfl); (case hg => rfl); (case hr => exact hr_); intro g2 hgb w_ hbox hb; have G2 := mk_ hbox; replace G1 := bl_ G1 hb; replace R1 := mk_ (Kd.C_below R1.out hb); replace R2 := mk_ (Kd.C_below R2.out hb); replace HB := bp_ HB hb; clear hbox hgb hb) | ((with_reducible refine gd_ 7 rfl ?_); refine box_event ?hg (N := 7) ?hd (cs := #[.int .i64 a3]) (t := 3) ?hr ?_; (case hd => rfl); (case hg => rfl); (case hr => exact hr_); intro g3 hgb w_ hbox hb; have G3 := mk_ hbox; replace G1 := bl_ G1 hb; replace G2 := bl_ G2 hb; replace R1 := mk_ (Kd.C_below R1.out hb); replace R2 := mk_ (Kd.C_below R2.out hb); replace HB := bp_ HB hb; clear hbox hgb hb) | (go_at_call 110; (with_reducible refine (impl_Clears.contains k _ _ l2 i _ R2.out o0.out HI.out).mono ?_); rintro e w_ ⟨rfl, hb⟩; replace G1 := bl_ G1 hb; replace G2 := bl_ G2 hb; replace G3 := bl_ G3 hb; replace R1 := mk_ (Kd.C_below R1.out hb); replace R2 := mk_ (Kd.C_below R2.out hb); replace HB := bp_ HB hb; clear hb; have k1 := bc0_ G1; have k2 := bc0_ G2) | (go_at_call 60; (with_reducible refine (impl_Climbs.calls k a0 _ _ l1 cl _ _ R1.out HC1.out HCl.out).mono ?_); rintro e w_ ⟨v0_, rfl, -, hb⟩; replace G1 := bl_ G1 hb; replace G2 := bl_ G2 hb; replace G3 := bl_ G3 hb; replace R1 := mk_ (Kd.C_below R1.out hb); replace R2 := mk_ (Kd.C_below R2.out hb); replace HB := bp_ HB hb; clear hb; have k3 := bc0_ G3))
  go_ret2
  exact ⟨re_, hw_ HB⟩
 have d2b : decide ((20 : Int) < (l2.length : Int)) = false := decide_eq_false d2
 clear d2
 cases t3
 ·simp only [d1b, d2b, Bool.not_false, Bool.and_false, Bool.true_and, Bool.false_eq_true, if_false, Option.some.injEq, Prod.mk.injEq] at h
  obtain ⟨rfl, rfl⟩ := h
  go_enter Try.func56, Try.ntmps56
  go_wp2_with (first | ((with_reducible refine gd_ 4 rfl ?_); refine box_event ?hg (N := 4) ?hd (cs := #[.int .i64 a0]) (t := 3) ?hr ?_; (case hd => rfl); (case hg => rfl); (case hr => exact hr_); intro g1 hgb w_ hbox hb; have G1 := mk_ hbox; have R1 := mk_ (Kd.C_below d6.out hb); have R2 := mk_ (Kd.C_below o1.out hb); replace HB := bp_ HB hb; clear hbox hgb hb) | ((with_reducible refine gd_ 5 rfl ?_); refine box_event ?hg (N := 5) ?hd (cs := #[.slice A1 l1.length c1]) (t := 91) ?hr ?_; (case hd => rfl); (case hg => rfl); (case hr => exact hr_); intro g2 hgb w_ hbox hb; have G2 := mk_ hbox; replace G1 := bl_ G1 hb; replace R1 := mk_ (Kd.C_below R1.out hb); replace R2 := mk_ (Kd.C_below R2.out hb); replace HB := bp_ HB hb; clear hbox hgb hb) | ((with_reducible refine gd_ 7 rfl ?_); refine box_event ?hg (N := 7) ?hd (cs := #[.int .i64 a3]) (t := 3) ?hr ?_; (case hd => rfl); (case hg => rfl); (case hr => exact hr_); intro g3 hgb w_ hbox hb; have G3 := mk_ hbox; replace G1 := bl_ G1 hb; replace G2 := bl_ G2 hb; replace R1 := mk_ (Kd.C_below R1.out hb); replace R2 := mk_ (Kd.C_below R2.out hb); replace HB := bp_ HB hb; clear hbox hgb hb) | (go_at_call 110; (with_reducible refine (impl_Clears.contains k _ _ l2 i _ R2.out o0.out HI.out).mono ?_); rintro e w_ ⟨rfl, hb⟩; replace G1 := bl_ G1 hb; replace G2 := bl_ G2 hb; replace G3 := bl_ G3 hb; replace R1 := mk_ (Kd.C_below R1.out hb); replace R2 := mk_ (Kd.C_below R2.out hb); replace HB := bp_ HB hb; clear hb; have k1 := bc0_ G1; have k2 := bc0_ G2) | (go_at_call 60; (with_reducible refine (impl_Climbs.calls k a0 _ _ l1 cl _ _ R1.out HC1.out HCl.out).mono ?_); rintro e w_ ⟨v0_, rfl, -, hb⟩; replace G1 := bl_ G1 hb; replace G2 := bl_ G2 hb; replace G3 := bl_ G3 hb; replace R1 := mk_ (Kd.C_below R1.out hb); replace R2 := mk_ (Kd.C_below R2.out hb); replace HB := bp_ HB hb; clear hb; have k3 := bc0_ G3) | ((with_reducible refine gate_callee (f := 76) rfl ?_); refine goesL_ (some 33) rfl rfl Try.func76 (by kernel_rfl) rfl #[.int .i64 a3, .int .i64 0, .int .i64 1000] rfl (by (try simp only [List.map_toArray, List.map_cons, List.map_nil]); first | done | rfl) ?_; (with_reducible refine (impl_in.calls a3 0 1000 false _ HIn.out).mono ?_); rintro e w' ⟨rfl, ⟨nd, rfl⟩⟩; refine ⟨_, rfl, ?_⟩) | (go_at_call 76; (with_reducible refine (impl_in.calls a3 0 1000 false _ HIn.out).mono ?_); rintro e w' ⟨rfl, ⟨nd, rfl⟩⟩))
  go_ret2
  exact ⟨re_, hw_ HB⟩
 ·simp only [d1b, d2b, Bool.not_false, Bool.and_true, Bool.true_and, if_true] at h
  obtain ⟨j, hj, h⟩ := Option.bind_eq_some_iff.mp h
  simp only [Option.some.injEq, Prod.mk.injEq] at h
  obtain ⟨rfl, rfl⟩ := h
  have HJ := mk_ hj; clear hj
  go_enter Try.func56, Try.ntmps56
  go_wp2_with (first | ((with_reducible refine gd_ 4 rfl ?_); refine box_event ?hg (N := 4) ?hd (cs := #[.int .i64 a0]) (t := 3) ?hr ?_; (case hd => rfl); (case hg => rfl); (case hr => exact hr_); intro g1 hgb w_ hbox hb; have G1 := mk_ hbox; have R1 := mk_ (Kd.C_below d6.out hb); have R2 := mk_ (Kd.C_below o1.out hb); replace HB := bp_ HB hb; clear hbox hgb hb) | ((with_reducible refine gd_ 5 rfl ?_); refine box_event ?hg (N := 5) ?hd (cs := #[.slice A1 l1.length c1]) (t := 91) ?hr ?_; (case hd => rfl); (case hg => rfl); (case hr => exact hr_); intro g2 hgb w_ hbox hb; have G2 := mk_ hbox; replace G1 := bl_ G1 hb; replace R1 := mk_ (Kd.C_below R1.out hb); replace R2 := mk_ (Kd.C_below R2.out hb); replace HB := bp_ HB hb; clear hbox hgb hb) | ((with_reducible refine gd_ 7 rfl ?_); refine box_event ?hg (N := 7) ?hd (cs := #[.int .i64 a3]) (t := 3) ?hr ?_; (case hd => rfl); (case hg => rfl); (case hr => exact hr_); intro g3 hgb w_ hbox hb; have G3 := mk_ hbox; replace G1 := bl_ G1 hb; replace G2 := bl_ G2 hb; replace R1 := mk_ (Kd.C_below R1.out hb); replace R2 := mk_ (Kd.C_below R2.out hb); replace HB := bp_ HB hb; clear hbox hgb hb) | (go_at_call 110; (with_reducible refine (impl_Clears.contains k _ _ l2 i _ R2.out o0.out HI.out).mono ?_); rintro e w_ ⟨rfl, hb⟩; replace G1 := bl_ G1 hb; replace G2 := bl_ G2 hb; replace G3 := bl_ G3 hb; replace R1 := mk_ (Kd.C_below R1.out hb); replace R2 := mk_ (Kd.C_below R2.out hb); replace HB := bp_ HB hb; clear hb; have k1 := bc0_ G1; have k2 := bc0_ G2) | (go_at_call 60; (with_reducible refine (impl_Climbs.calls k a0 _ _ l1 cl _ _ R1.out HC1.out HCl.out).mono ?_); rintro e w_ ⟨v0_, rfl, -, hb⟩; replace G1 := bl_ G1 hb; replace G2 := bl_ G2 hb; replace G3 := bl_ G3 hb; replace R1 := mk_ (Kd.C_below R1.out hb); replace R2 := mk_ (Kd.C_below R2.out hb); replace HB := bp_ HB hb; clear hb; have k3 := bc0_ G3) | ((with_reducible refine gate_callee (f := 76) rfl ?_); refine goesL_ (some 33) rfl rfl Try.func76 (by kernel_rfl) rfl #[.int .i64 a3, .int .i64 0, .int .i64 1000] rfl (by (try simp only [List.map_toArray, List.map_cons, List.map_nil]); first | done | rfl) ?_; (with_reducible refine (impl_in.calls a3 0 1000 true _ HIn.out).mono ?_); rintro e w' ⟨rfl, ⟨nd, rfl⟩⟩; refine ⟨_, rfl, ?_⟩) | (go_at_call 76; (with_reducible refine (impl_in.calls a3 0 1000 true _ HIn.out).mono ?_); rintro e w' ⟨rfl, ⟨nd, rfl⟩⟩) | (go_at_call 112; (with_reducible refine (impl_Clears.index2 k a0 A1 c1 l1 a3 g1 g2 g3 A2 c2 l2 j _ ?h5 o0.out ?p6 HC1 ?p7 ?p8 ?p9 HJ.out).mono ?_); (case h5 => exact cw_ R2.out); (case p6 => exact ⟨cw_ R1.out⟩); (case p7 => exact ⟨bx_ G1⟩); (case p8 => exact ⟨bx_ G2⟩); (case p9 => exact ⟨bx_ G3⟩); rintro e w_ ⟨rfl, hb⟩; replace HB := hk_ HB hb; clear hb))
  go_ret2
  exact ⟨re_, hw_ HB⟩

/-! ### laws_eqPhase: function 115 -/
def laws_eqPhase.f (a0_0 : Int) (a0_1 : Int) (a1_0 : Int) (a1_1 : Int) : Option (Bool) := if a0_0 = a1_0 then (if a0_1 = a1_1 then (some true) else (some false)) else (some false)
set_option maxHeartbeats 8000000 in
set_option maxRecDepth 100000 in
theorem laws_eqPhase.calls (a0_0 : Int) (a0_1 : Int) (a1_0 : Int) (a1_1 : Int) (r : Bool) (w : World) (h : laws_eqPhase.f a0_0 a0_1 a1_0 a1_1 = some r) :
  Calls Try.prog 115 #[.agg #[.int .i64 a0_0, .int .i64 a0_1], .agg #[.int .i64 a1_0, .int .i64 a1_1]] w fun e w' => e = .returned (.bool r) ∧ Below w.heap.size w w' := by
 have l7 := Try.underlying137
 have HB := mk_ (Below.refl w.heap.size w)
 have H : (if a0_0 = a1_0 then (if a0_1 = a1_1 then (some true) else (some false)) else (some false)) = some r := h
 clear h; by_cases c3 : a0_0 = a1_0
 ·rw [if_pos c3] at H; have c9 : (a0_0 == a1_0) = true := beq_iff_eq.mpr c3; have h4 : (a0_0 != a1_0) = false := bne_eq_false_iff_eq.mpr c3; clear c3; by_cases c4 : a0_1 = a1_1
  ·rw [if_pos c4] at H; have d7 : (a0_1 == a1_1) = true := beq_iff_eq.mpr c4; have m8 : (a0_1 != a1_1) = false := bne_eq_false_iff_eq.mpr c4; clear c4; obtain rfl := Option.some.inj H
   go_enter Try.func115, Try.ntmps115
   go_wp2_with (first | ((with_reducible refine gd_ 2 rfl ?_); refine box_event ?hg (N := 2) ?hd (cs := #[.int .i64 a0_0, .int .i64 a0_1]) (t := 137) ?hr ?_; (case hd => rfl); (case hg => rfl); (case hr => exact hr_); intro l8 hg w5 hbox hb; have a6 := mk_ (hbox); have d0 := gb_ hg HB; replace HB := bp_ HB hb; have l9 := d0; clear hb hbox hg) | ((with_reducible refine gd_ 3 rfl ?_); refine box_event ?hg (N := 3) ?hd (cs := #[.int .i64 a1_0, .int .i64 a1_1]) (t := 137) ?hr ?_; (case hd => rfl); (case hg => rfl); (case hr => exact hr_); intro m0 hg w6 hbox hb; have b4 := mk_ (hbox); have d3 := gb_ hg HB; replace HB := bp_ HB hb; have m1 := d3; have a8 := nb_ hg a6; replace a6 := bl_ a6 hb; have b6 := ns_ a8; clear hb hbox hg; have o8 := a8.out; have o9 := b6.out; have m9 := bc0_ a6; have n0 := bc1_ a6; have n1 := bf_ a6 0; have n2 := bf_ a6 1; have n3 := bc0_ b4; have n4 := bc1_ b4; have n5 := bf_ b4 0; have n6 := bf_ b4 1))
   go_ret
   exact ⟨re_, hw_ HB⟩
  ·rw [if_neg c4] at H; have d7 : (a0_1 == a1_1) = false := beq_eq_false_iff_ne.mpr c4; have m8 : (a0_1 != a1_1) = true := bne_iff_ne.mpr c4; obtain rfl := Option.some.inj H
   go_enter Try.func115, Try.ntmps115
   go_wp2_with (first | ((with_reducible refine gd_ 2 rfl ?_); refine box_event ?hg (N := 2) ?hd (cs := #[.int .i64 a0_0, .int .i64 a0_1]) (t := 137) ?hr ?_; (case hd => rfl); (case hg => rfl); (case hr => exact hr_); intro l8 hg p3 hbox hb; have a6 := mk_ (hbox); have d0 := gb_ hg HB; replace HB := bp_ HB hb; have l9 := d0; clear hb hbox hg) | ((with_reducible refine gd_ 3 rfl ?_); refine box_event ?hg (N := 3) ?hd (cs := #[.int .i64 a1_0, .int .i64 a1_1]) (t := 137) ?hr ?_; (case hd => rfl); (case hg => rfl); (case hr => exact hr_); intro m0 hg p4 hbox hb; have b4 := mk_ (hbox); have d3 := gb_ hg HB; replace HB := bp_ HB hb; have m1 := d3; have a8 := nb_ hg a6; replace a6 := bl_ a6 hb; have b6 := ns_ a8; clear hb hbox hg; have o2 := a8.out; have o3 := b6.out; have h6 := bc0_ a6; have h7 := bc1_ a6; have h8 := bf_ a6 0; have h9 := bf_ a6 1; have j0 := bc0_ b4; have j1 := bc1_ b4; have j2 := bf_ b4 0; have j3 := bf_ b4 1))
   go_ret
   exact ⟨re_, hw_ HB⟩
 ·rw [if_neg c3] at H; have c9 : (a0_0 == a1_0) = false := beq_eq_false_iff_ne.mpr c3; have h4 : (a0_0 != a1_0) = true := bne_iff_ne.mpr c3; obtain rfl := Option.some.inj H
  go_enter Try.func115, Try.ntmps115
  go_wp2_with (first | ((with_reducible refine gd_ 2 rfl ?_); refine box_event ?hg (N := 2) ?hd (cs := #[.int .i64 a0_0, .int .i64 a0_1]) (t := 137) ?hr ?_; (case hd => rfl); (case hg => rfl); (case hr => exact hr_); intro l8 hg q0 hbox hb; have a6 := mk_ (hbox); have d0 := gb_ hg HB; replace HB := bp_ HB hb; have l9 := d0; clear hb hbox hg) | ((with_reducible refine gd_ 3 rfl ?_); refine box_event ?hg (N := 3) ?hd (cs := #[.int .i64 a1_0, .int .i64 a1_1]) (t := 137) ?hr ?_; (case hd => rfl); (case hg => rfl); (case hr => exact hr_); intro m0 hg q1 hbox hb; have b4 := mk_ (hbox); have d3 := gb_ hg HB; replace HB := bp_ HB hb; have m1 := d3; have a8 := nb_ hg a6; replace a6 := bl_ a6 hb; have b6 := ns_ a8; clear hb hbox hg; have o4 := a8.out; have o5 := b6.out; have j4 := bc0_ a6; have j5 := bc1_ a6; have j6 := bf_ a6 0; have j7 := bf_ a6 1; have j8 := bc0_ b4; have j9 := bc1_ b4; have l3 := bf_ b4 0; have l4 := bf_ b4 1))
  go_ret
  exact ⟨re_, hw_ HB⟩

/-! ### laws_eqPhaseS: function 57 -/
def laws_eqPhaseS.l0 : Nat → List (S137) → List (S137) → Int → Option (Bool)
 | 0, _, _, _ => none
 | k + 1, x0, x1, x5 => if x5 < (x0.length : Int) then (if 0 ≤ x5 then (if x5 < (x1.length : Int) then ((laws_eqPhase.f ((rd_T137 x0 x5).f0) ((rd_T137 x0 x5).f1) ((rd_T137 x1 x5).f0) ((rd_T137 x1 x5).f1)).bind fun n7 => (if n7 = true then (laws_eqPhaseS.l0 k x0 x1 (wrap64 (x5 + 1))) else (some false))) else (none)) else (none)) else (some true)
def laws_eqPhaseS.f (k : Nat) (l0 : List (S137)) (l1 : List (S137)) : Option (Bool) := if (l0.length : Int) = (l1.length : Int) then (laws_eqPhaseS.l0 k l0 l1 0) else (some false)
theorem laws_eqPhaseS.mono_l : ∀ k, (∀ y0 y1 y2, LeO (laws_eqPhaseS.l0 k y0 y1 y2) (laws_eqPhaseS.l0 (k + 1) y0 y1 y2))
 | 0 => fun _ _ _ r h => by simp [laws_eqPhaseS.l0] at h
 | k + 1 => by
  have g9 := laws_eqPhaseS.mono_l k
  ·intro y0 y1 y2
   unfold laws_eqPhaseS.l0
   repeat' first
   | (with_reducible exact g9 _ _ _)
   | (with_reducible exact LeO.refl _)
   | (with_reducible exact LeO.none _)
   | (with_reducible refine LeO.ite ?_ ?_)
   | (with_reducible refine LeO.bind ?_ (fun _ => ?_))
   | exact g9 _ _ _
   | exact LeO.none _
   | refine LeO.ite ?_ ?_
   | refine LeO.bind ?_ (fun _ => ?_)
theorem laws_eqPhaseS.mono : ∀ a0 a1 k, LeO (laws_eqPhaseS.f k a0 a1) (laws_eqPhaseS.f (k + 1) a0 a1) := by
 intro a0 a1 k
 have g9 := laws_eqPhaseS.mono_l k
 unfold laws_eqPhaseS.f
 repeat' first
   | (with_reducible exact g9 _ _ _)
   | (with_reducible exact LeO.refl _)
   | (with_reducible exact LeO.none _)
   | (with_reducible refine LeO.ite ?_ ?_)
   | (with_reducible refine LeO.bind ?_ (fun _ => ?_))
   | exact g9 _ _ _
   | exact LeO.none _
   | refine LeO.ite ?_ ?_
   | refine LeO.bind ?_ (fun _ => ?_)
def laws_eqPhaseS.T6 : Bool × List (List Nat × List Nat) := (true, [([], []), ([], []), ([0, 1], [0, 1]), ([2], [2]), ([], []), ([], []), ([4, 5], [4, 5]), ([6], [6]), ([3, 7], [3, 7]), ([8], [8])])
def laws_eqPhaseS.B6 : List Nat := [0, 0, 3, 7, 0, 0, 48, 112, 255, 511]
theorem laws_eqPhaseS.tab6 : rtab .any (opsOf Try.f57 6) = laws_eqPhaseS.T6 := by kernel_rfl
theorem laws_eqPhaseS.bits6 : waitsOk laws_eqPhaseS.T6.2 laws_eqPhaseS.B6 = true := by kernel_rfl
set_option maxHeartbeats 8000000 in
set_option maxRecDepth 100000 in
theorem laws_eqPhaseS.calls (k : Nat) (A0 : Option Addr) (c0 : Nat) (l0 : List (S137)) (A1 : Option Addr) (c1 : Nat) (l1 : List (S137)) (r : Bool) (w : World) (hr0 : Kd.C k137 w A0 l0.length l0) (hc0 : l0.length ≤ c0) (hr1 : Kd.C k137 w A1 l1.length l1) (hc1 : l1.length ≤ c1) (h : laws_eqPhaseS.f k l0 l1 = some r) :
  Calls Try.prog 57 #[.slice A0 l0.length c0, .slice A1 l1.length c1] w fun e w' => e = .returned (.bool r) ∧ Below w.heap.size w w' := by
 have l7 := Try.underlying137
 have l5 := mk_ hr0; have o6 := mk_ hc0; clear hr0 hc0; have d6 := mk_ hr1; have HC1 := mk_ hc1; clear hr1 hc1; have HB := mk_ (Below.refl w.heap.size w)
 have H : (if (l0.length : Int) = (l1.length : Int) then (laws_eqPhaseS.l0 k l0 l1 0) else (some false)) = some r := h
 clear h; by_cases c3 : (l0.length : Int) = (l1.length : Int)
 ·rw [if_pos c3] at H; have c9 : ((l0.length : Int) == (l1.length : Int)) = true := beq_iff_eq.mpr c3; have h4 : ((l0.length : Int) != (l1.length : Int)) = false := bne_eq_false_iff_eq.mpr c3
  have p2 : (l0.length == l1.length) = true := by first | simpa using c3 | (simp at c3 ⊢; omega)
  clear c3
  have H' := mk_ H
  clear H
  go_enter Try.func57, Try.ntmps57
  go_wp2
  go_loopg [5] k (fun kq v5 w' => ∃ (a4 : Int), v5 = .int .i64 a4 ∧ Aside0 (laws_eqPhaseS.l0 kq l0 l1 a4 = some r) ∧ Aside0 (kq ≤ k) ∧ Aside0 (Below w.heap.size w w'))
  case atStart => exact ⟨(0), rf_, H', ⟨Nat.le_refl _⟩, ⟨hw_ HB⟩⟩
  case round =>
   clear H'; (try clear c1); (try clear c3)
   obtain ⟨a4, rfl, HA, l6, HB⟩ := hrel
   cases gk with
   | zero => exact absurd HA.out (by simp [laws_eqPhaseS.l0])
   | succ k1 =>
    have H := HA.out; clear HA
    simp only [laws_eqPhaseS.l0] at H
    by_cases c4 : a4 < (l0.length : Int)
    ·rw [if_pos c4] at H; have d7 : decide (a4 < (l0.length : Int)) = true := decide_eq_true c4; clear c4; by_cases c5 : 0 ≤ a4
     ·rw [if_pos c5] at H; have q2 : decide (0 ≤ a4) = true := decide_eq_true c5; clear c5; by_cases c6 : a4 < (l1.length : Int)
      ·rw [if_pos c6] at H; have q3 : decide (a4 < (l1.length : Int)) = true := decide_eq_true c6; clear c6; replace H := Option.bind_eq_some_iff.mp H; obtain ⟨n7, p5, H⟩ := H; (try dsimp only at H); have A7 := mk_ p5; clear p5; by_cases c8 : n7 = true
       ·subst c8; rw [if_pos rfl] at H
        have H' := mk_ H
        clear H
        try go_wp2
        replace HB := dH_ HB
        have g4 : 0 ≤ (a4 : Int) := od_
        have g5 : a4 < (l0.length : Int) := od_
        obtain ⟨b8, n8, b0, b1⟩ := at_T137 l5.out a4 g4 g5
        have hw153_1 := b1
        have hw153_0 := b0
        cases n8
        replace b0 := (HB.out.cell (World.block_lt_of_cell? w _ b0)).trans b0
        replace b1 := (HB.out.cell (World.block_lt_of_cell? w _ b1)).trans b1
        replace g4 := eq_true g4; replace g5 := eq_true g5
        have g6 : 0 ≤ (a4 : Int) := od_
        have g7 : a4 < (l1.length : Int) := od_
        obtain ⟨b9, n9, b2, b3⟩ := at_T137 d6.out a4 g6 g7
        have hw154_1 := b3
        have hw154_0 := b2
        cases n9
        replace b2 := (HB.out.cell (World.block_lt_of_cell? w _ b2)).trans b2
        replace b3 := (HB.out.cell (World.block_lt_of_cell? w _ b3)).trans b3
        replace g6 := eq_true g6; replace g7 := eq_true g7
        refine start_ (n := 10) (S := fun w' => w'.cell? (b8.add ((a4).toNat * 2)) = some (.int .i64 ((rd_T137 l0 a4).f0)) ∧ w'.cell? ⟨(b8.add ((a4).toNat * 2)).block, (b8.add ((a4).toNat * 2)).off + 1, none⟩ = some (.int .i64 ((rd_T137 l0 a4).f1)) ∧ w'.cell? (b9.add ((a4).toNat * 2)) = some (.int .i64 ((rd_T137 l1 a4).f0)) ∧ w'.cell? ⟨(b9.add ((a4).toNat * 2)).block, (b9.add ((a4).toNat * 2)).off + 1, none⟩ = some (.int .i64 ((rd_T137 l1 a4).f1))) (ds := []) (bs_ 10 0) (by kernel_rfl) rfl (by kernel_rfl) ⟨((HB.out.cell (World.block_lt_of_cell? w _ hw153_0)).trans hw153_0), ((HB.out.cell (World.block_lt_of_cell? w _ hw153_1)).trans hw153_1), ((HB.out.cell (World.block_lt_of_cell? w _ hw154_0)).trans hw154_0), ((HB.out.cell (World.block_lt_of_cell? w _ hw154_1)).trans hw154_1)⟩ (fun hHeld => ?_); refine with_tabW laws_eqPhaseS.tab6 laws_eqPhaseS.bits6 (fun HT_ HW_ => ?_)
        generalize wr.drew = w9 at HB b0 b1 b2 b3 hHeld ⊢
        refine pu_ HT_ 0 17 (bs_ 10 1) ?_; refine pu_ HT_ 1 18 (bs_ 10 3) ?_; refine pu_ HT_ 2 19 (bs_ 10 7) ?_; refine pu_ HT_ 4 21 (bs_ 10 23) ?_; refine pu_ HT_ 5 22 (bs_ 10 55) ?_; refine pu_ HT_ 6 23 (bs_ 10 119) ?_; refine tk_ HT_ HW_ 3 20 (bs_ 10 127) hHeld ?_; refine tk_ HT_ HW_ 7 24 (bs_ 10 255) hHeld ?_
        refine one_ (i := 8) (N := some 25) (bs_ 10 511) rfl rfl (one_of HT_.out (by kernel_rfl)) (by decide) (fun K hK => ?_)
        refine gs_ Try.func115 #[.agg #[.int .i64 ((rd_T137 l0 a4).f0), .int .i64 ((rd_T137 l0 a4).f1)], .agg #[.int .i64 ((rd_T137 l1 a4).f0), .int .i64 ((rd_T137 l1 a4).f1)]] ?_
        with_reducible refine (laws_eqPhase.calls ((rd_T137 l0 a4).f0) ((rd_T137 l0 a4).f1) ((rd_T137 l1 a4).f0) ((rd_T137 l1 a4).f1) true _ A7.out).mono ?_
        rintro e p3 ⟨rfl, hb⟩
        refine ⟨_, rfl, ?_⟩
        replace HB := hk_ HB hb
        (try clear hb); (try clear q4); (try clear hk); (try clear hi)
        refine hK.out _ _ ⟨((HB.out.cell (World.block_lt_of_cell? w _ hw153_0)).trans hw153_0), ((HB.out.cell (World.block_lt_of_cell? w _ hw153_1)).trans hw153_1), ((HB.out.cell (World.block_lt_of_cell? w _ hw154_0)).trans hw154_0), ((HB.out.cell (World.block_lt_of_cell? w _ hw154_1)).trans hw154_1)⟩ (fun hHeld => ?_)
        clear hK K; refine nm_ 25 ?_; refine pu_ HT_ 9 26 (bs_ 10 1023) ?_
        refine done_ (done_of HT_.out (by kernel_rfl)) ?_
        try go_wp2
        go_roundg k1
        case measure => have := l6.out; omega
        case rel => exact ⟨(wrap64 (a4 + 1)), rf_, H', ⟨by have := l6.out; omega⟩, ⟨hw_ HB⟩⟩
       ·replace c8 := Bool.eq_false_iff.mpr c8; subst c8; rw [if_neg (show ¬ (false = true) by decide)] at H; obtain rfl := Option.some.inj H
        try go_wp2
        replace HB := dH_ HB
        have g4 : 0 ≤ (a4 : Int) := od_
        have g5 : a4 < (l0.length : Int) := od_
        obtain ⟨b8, n8, b0, b1⟩ := at_T137 l5.out a4 g4 g5
        have hw153_1 := b1
        have hw153_0 := b0
        cases n8
        replace b0 := (HB.out.cell (World.block_lt_of_cell? w _ b0)).trans b0
        replace b1 := (HB.out.cell (World.block_lt_of_cell? w _ b1)).trans b1
        replace g4 := eq_true g4; replace g5 := eq_true g5
        have g6 : 0 ≤ (a4 : Int) := od_
        have g7 : a4 < (l1.length : Int) := od_
        obtain ⟨b9, n9, b2, b3⟩ := at_T137 d6.out a4 g6 g7
        have hw154_1 := b3
        have hw154_0 := b2
        cases n9
        replace b2 := (HB.out.cell (World.block_lt_of_cell? w _ b2)).trans b2
        replace b3 := (HB.out.cell (World.block_lt_of_cell? w _ b3)).trans b3
        replace g6 := eq_true g6; replace g7 := eq_true g7
        refine start_ (n := 10) (S := fun w' => w'.cell? (b8.add ((a4).toNat * 2)) = some (.int .i64 ((rd_T137 l0 a4).f0)) ∧ w'.cell? ⟨(b8.add ((a4).toNat * 2)).block, (b8.add ((a4).toNat * 2)).off + 1, none⟩ = some (.int .i64 ((rd_T137 l0 a4).f1)) ∧ w'.cell? (b9.add ((a4).toNat * 2)) = some (.int .i64 ((rd_T137 l1 a4).f0)) ∧ w'.cell? ⟨(b9.add ((a4).toNat * 2)).block, (b9.add ((a4).toNat * 2)).off + 1, none⟩ = some (.int .i64 ((rd_T137 l1 a4).f1))) (ds := []) (bs_ 10 0) (by kernel_rfl) rfl (by kernel_rfl) ⟨((HB.out.cell (World.block_lt_of_cell? w _ hw153_0)).trans hw153_0), ((HB.out.cell (World.block_lt_of_cell? w _ hw153_1)).trans hw153_1), ((HB.out.cell (World.block_lt_of_cell? w _ hw154_0)).trans hw154_0), ((HB.out.cell (World.block_lt_of_cell? w _ hw154_1)).trans hw154_1)⟩ (fun hHeld => ?_); refine with_tabW laws_eqPhaseS.tab6 laws_eqPhaseS.bits6 (fun HT_ HW_ => ?_)
        generalize wr.drew = p4 at HB b0 b1 b2 b3 hHeld ⊢
        refine pu_ HT_ 0 17 (bs_ 10 1) ?_; refine pu_ HT_ 1 18 (bs_ 10 3) ?_; refine pu_ HT_ 2 19 (bs_ 10 7) ?_; refine pu_ HT_ 4 21 (bs_ 10 23) ?_; refine pu_ HT_ 5 22 (bs_ 10 55) ?_; refine pu_ HT_ 6 23 (bs_ 10 119) ?_; refine tk_ HT_ HW_ 3 20 (bs_ 10 127) hHeld ?_; refine tk_ HT_ HW_ 7 24 (bs_ 10 255) hHeld ?_
        refine one_ (i := 8) (N := some 25) (bs_ 10 511) rfl rfl (one_of HT_.out (by kernel_rfl)) (by decide) (fun K hK => ?_)
        refine gs_ Try.func115 #[.agg #[.int .i64 ((rd_T137 l0 a4).f0), .int .i64 ((rd_T137 l0 a4).f1)], .agg #[.int .i64 ((rd_T137 l1 a4).f0), .int .i64 ((rd_T137 l1 a4).f1)]] ?_
        with_reducible refine (laws_eqPhase.calls ((rd_T137 l0 a4).f0) ((rd_T137 l0 a4).f1) ((rd_T137 l1 a4).f0) ((rd_T137 l1 a4).f1) false _ A7.out).mono ?_
        rintro e q5 ⟨rfl, hb⟩
        refine ⟨_, rfl, ?_⟩
        replace HB := hk_ HB hb
        (try clear hb); (try clear q4); (try clear hk); (try clear hi)
        refine hK.out _ _ ⟨((HB.out.cell (World.block_lt_of_cell? w _ hw153_0)).trans hw153_0), ((HB.out.cell (World.block_lt_of_cell? w _ hw153_1)).trans hw153_1), ((HB.out.cell (World.block_lt_of_cell? w _ hw154_0)).trans hw154_0), ((HB.out.cell (World.block_lt_of_cell? w _ hw154_1)).trans hw154_1)⟩ (fun hHeld => ?_)
        clear hK K; refine nm_ 25 ?_; refine pu_ HT_ 9 26 (bs_ 10 1023) ?_
        refine done_ (done_of HT_.out (by kernel_rfl)) ?_
        try go_wp2
        go_ret
        exact ⟨re_, hw_ HB⟩
      ·rw [if_neg c6] at H
       exact absurd H (by simp)
     ·rw [if_neg c5] at H
      exact absurd H (by simp)
    ·rw [if_neg c4] at H; have d7 : decide (a4 < (l0.length : Int)) = false := decide_eq_false c4; clear c4; obtain rfl := Option.some.inj H; go_wp2; go_ret
     exact ⟨re_, hw_ HB⟩
 ·rw [if_neg c3] at H; have c9 : ((l0.length : Int) == (l1.length : Int)) = false := beq_eq_false_iff_ne.mpr c3; have h4 : ((l0.length : Int) != (l1.length : Int)) = true := bne_iff_ne.mpr c3
  have p2 : (l0.length == l1.length) = false := by first | simpa using c3 | (simp at c3 ⊢; omega)
  obtain rfl := Option.some.inj H
  go_enter Try.func57, Try.ntmps57
  go_wp2; go_ret
  exact ⟨re_, hw_ HB⟩

/-! ### laws_eqPeak: function 116 -/
def laws_eqPeak.f (a0_0 : Int) (a0_1 : Int) (a1_0 : Int) (a1_1 : Int) : Option (Bool) := if a0_0 = a1_0 then (if a0_1 = a1_1 then (some true) else (some false)) else (some false)
set_option maxHeartbeats 8000000 in
set_option maxRecDepth 100000 in
theorem laws_eqPeak.calls (a0_0 : Int) (a0_1 : Int) (a1_0 : Int) (a1_1 : Int) (r : Bool) (w : World) (h : laws_eqPeak.f a0_0 a0_1 a1_0 a1_1 = some r) :
  Calls Try.prog 116 #[.agg #[.int .i64 a0_0, .int .i64 a0_1], .agg #[.int .i64 a1_0, .int .i64 a1_1]] w fun e w' => e = .returned (.bool r) ∧ Below w.heap.size w w' := by
 have g8 := Try.underlying134
 have HB := mk_ (Below.refl w.heap.size w)
 have H : (if a0_0 = a1_0 then (if a0_1 = a1_1 then (some true) else (some false)) else (some false)) = some r := h
 clear h; by_cases c3 : a0_0 = a1_0
 ·rw [if_pos c3] at H; have c9 : (a0_0 == a1_0) = true := beq_iff_eq.mpr c3; have h4 : (a0_0 != a1_0) = false := bne_eq_false_iff_eq.mpr c3; clear c3; by_cases c4 : a0_1 = a1_1
  ·rw [if_pos c4] at H; have d7 : (a0_1 == a1_1) = true := beq_iff_eq.mpr c4; have m8 : (a0_1 != a1_1) = false := bne_eq_false_iff_eq.mpr c4; clear c4; obtain rfl := Option.some.inj H
   go_enter Try.func116, Try.ntmps116
   go_wp2_with (first | ((with_reducible refine gd_ 2 rfl ?_); refine box_event ?hg (N := 2) ?hd (cs := #[.int .i64 a0_0, .int .i64 a0_1]) (t := 134) ?hr ?_; (case hd => rfl); (case hg => rfl); (case hr => exact hr_); intro m2 hg w5 hbox hb; have a7 := mk_ (hbox); have d4 := gb_ hg HB; replace HB := bp_ HB hb; have m3 := d4; clear hb hbox hg) | ((with_reducible refine gd_ 3 rfl ?_); refine box_event ?hg (N := 3) ?hd (cs := #[.int .i64 a1_0, .int .i64 a1_1]) (t := 134) ?hr ?_; (case hd => rfl); (case hg => rfl); (case hr => exact hr_); intro m4 hg w6 hbox hb; have b5 := mk_ (hbox); have d5 := gb_ hg HB; replace HB := bp_ HB hb; have m5 := d5; have a9 := nb_ hg a7; replace a7 := bl_ a7 hb; have b7 := ns_ a9; clear hb hbox hg; have o8 := a9.out; have o9 := b7.out; have m9 := bc0_ a7; have n0 := bc1_ a7; have n1 := bf_ a7 0; have n2 := bf_ a7 1; have n3 := bc0_ b5; have n4 := bc1_ b5; have n5 := bf_ b5 0; have n6 := bf_ b5 1))
   go_ret
   exact ⟨re_, hw_ HB⟩
  ·rw [if_neg c4] at H; have d7 : (a0_1 == a1_1) = false := beq_eq_false_iff_ne.mpr c4; have m8 : (a0_1 != a1_1) = true := bne_iff_ne.mpr c4; obtain rfl := Option.some.inj H
   go_enter Try.func116, Try.ntmps116
   go_wp2_with (first | ((with_reducible refine gd_ 2 rfl ?_); refine box_event ?hg (N := 2) ?hd (cs := #[.int .i64 a0_0, .int .i64 a0_1]) (t := 134) ?hr ?_; (case hd => rfl); (case hg => rfl); (case hr => exact hr_); intro m2 hg p3 hbox hb; have a7 := mk_ (hbox); have d4 := gb_ hg HB; replace HB := bp_ HB hb; have m3 := d4; clear hb hbox hg) | ((with_reducible refine gd_ 3 rfl ?_); refine box_event ?hg (N := 3) ?hd (cs := #[.int .i64 a1_0, .int .i64 a1_1]) (t := 134) ?hr ?_; (case hd => rfl); (case hg => rfl); (case hr => exact hr_); intro m4 hg p4 hbox hb; have b5 := mk_ (hbox); have d5 := gb_ hg HB; replace HB := bp_ HB hb; have m5 := d5; have a9 := nb_ hg a7; replace a7 := bl_ a7 hb; have b7 := ns_ a9; clear hb hbox hg; have o2 := a9.out; have o3 := b7.out; have h6 := bc0_ a7; have h7 := bc1_ a7; have h8 := bf_ a7 0; have h9 := bf_ a7 1; have j0 := bc0_ b5; have j1 := bc1_ b5; have j2 := bf_ b5 0; have j3 := bf_ b5 1))
   go_ret
   exact ⟨re_, hw_ HB⟩
 ·rw [if_neg c3] at H; have c9 : (a0_0 == a1_0) = false := beq_eq_false_iff_ne.mpr c3; have h4 : (a0_0 != a1_0) = true := bne_iff_ne.mpr c3; obtain rfl := Option.some.inj H
  go_enter Try.func116, Try.ntmps116
  go_wp2_with (first | ((with_reducible refine gd_ 2 rfl ?_); refine box_event ?hg (N := 2) ?hd (cs := #[.int .i64 a0_0, .int .i64 a0_1]) (t := 134) ?hr ?_; (case hd => rfl); (case hg => rfl); (case hr => exact hr_); intro m2 hg q0 hbox hb; have a7 := mk_ (hbox); have d4 := gb_ hg HB; replace HB := bp_ HB hb; have m3 := d4; clear hb hbox hg) | ((with_reducible refine gd_ 3 rfl ?_); refine box_event ?hg (N := 3) ?hd (cs := #[.int .i64 a1_0, .int .i64 a1_1]) (t := 134) ?hr ?_; (case hd => rfl); (case hg => rfl); (case hr => exact hr_); intro m4 hg q1 hbox hb; have b5 := mk_ (hbox); have d5 := gb_ hg HB; replace HB := bp_ HB hb; have m5 := d5; have a9 := nb_ hg a7; replace a7 := bl_ a7 hb; have b7 := ns_ a9; clear hb hbox hg; have o4 := a9.out; have o5 := b7.out; have j4 := bc0_ a7; have j5 := bc1_ a7; have j6 := bf_ a7 0; have j7 := bf_ a7 1; have j8 := bc0_ b5; have j9 := bc1_ b5; have l3 := bf_ b5 0; have l4 := bf_ b5 1))
  go_ret
  exact ⟨re_, hw_ HB⟩

end Go.Proofs.Ytnphbpkpjinddaa.QFnExactClears
-- squeezed
