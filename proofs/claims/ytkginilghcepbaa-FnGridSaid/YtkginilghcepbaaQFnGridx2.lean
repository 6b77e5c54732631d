/- Lean functions that tell what the Go functions used by one law answer, and for each a proof that the Go code comes to just these answers; no condition. Printed by this session's own program over the kit's printer. -/
import Derived.Test.YtkginilghcepbaaWSq
import Derived.Test.YtkginilghcepbaaQFnGridx0
import Derived.Test.YtkginilghcepbaaQFnGridx1
namespace Go.Proofs.Ytkginilghcepbaa.QFnGrid
open Go.RowKit Go.Proofs.YtkginilghcepbaaW.PrintWords Go.Proofs.YtkginilghcepbaaW.PrintLast Go.Proofs.YtkginilghcepbaaW.PrintMore
attribute [local go_sem] max2_int min2_int max_two min_two max_three min_three max_four min_four   -- for this text's walks alone
attribute [local go_sem high] go_eql go_neq go_lss go_leq go_gtr go_geq go_store   -- for this text's walks alone
set_option linter.unusedVariables false
set_option linter.unusedSimpArgs false

/-! ### impl_gcd: function 90 -/
def impl_gcd.l0 : Nat → Int → Int → Option (Int)
 | 0, _, _ => none
 | k + 1, x0, x1 => if x1 = 0 then ((impl_size.f x0).bind fun a6 => (some a6)) else (impl_gcd.l0 k x1 (Int.tmod x0 x1))
def impl_gcd.f (k : Nat) (a0 : Int) (a1 : Int) : Option (Int) := impl_gcd.l0 k a0 a1
theorem impl_gcd.mono_l : ∀ k, (∀ y0 y1, LeO (impl_gcd.l0 k y0 y1) (impl_gcd.l0 (k + 1) y0 y1))
 | 0 => fun _ _ r h => by simp [impl_gcd.l0] at h
 | k + 1 => by
  have a8 := impl_gcd.mono_l k
  ·intro y0 y1
   unfold impl_gcd.l0
   repeat' first
   | (with_reducible exact a8 _ _)
   | (with_reducible exact LeO.refl _)
   | (with_reducible exact LeO.none _)
   | (with_reducible refine LeO.ite ?_ ?_)
   | (with_reducible refine LeO.bind ?_ (fun _ => ?_))
   | exact a8 _ _
   | exact LeO.none _
   | refine LeO.ite ?_ ?_
   | refine LeO.bind ?_ (fun _ => ?_)
theorem impl_gcd.mono : ∀ a0 a1 k, LeO (impl_gcd.f k a0 a1) (impl_gcd.f (k + 1) a0 a1) := by
 intro a0 a1 k
 have a8 := impl_gcd.mono_l k
 unfold impl_gcd.f
 repeat' first
   | (with_reducible exact a8 _ _)
   | (with_reducible exact LeO.refl _)
   | (with_reducible exact LeO.none _)
   | (with_reducible refine LeO.ite ?_ ?_)
   | (with_reducible refine LeO.bind ?_ (fun _ => ?_))
   | exact a8 _ _
   | exact LeO.none _
   | refine LeO.ite ?_ ?_
   | refine LeO.bind ?_ (fun _ => ?_)
set_option maxHeartbeats 8000000 in
set_option maxRecDepth 100000 in
theorem impl_gcd.calls (k : Nat) (a0 : Int) (a1 : Int) (r : Int) (w : World) (h : impl_gcd.f k a0 a1 = some r) :
  Calls Try.prog 90 #[.int .i64 a0, .int .i64 a1] w fun e w' => e = .returned (.int .i64 r) ∧ Below w.heap.size w w' := by
 have HB := mk_ (Below.refl w.heap.size w)
 have H : (impl_gcd.l0 k a0 a1) = some r := h
 clear h
 have H' := mk_ H
 clear H
 go_enter Try.func90, Try.ntmps90
 go_wp2
 repeat (go_quiet (fail); try go_wp2)
 go_loopg [0, 1] k (fun kq v0 v1 w' => ∃ (a5 : Int) (a4 : Int), v0 = .int .i64 a5 ∧ v1 = .int .i64 a4 ∧ Aside0 (impl_gcd.l0 kq a5 a4 = some r) ∧ Aside0 (kq ≤ k) ∧ Aside0 (Below w.heap.size w w'))
 case atStart => exact ⟨(a0), (a1), rf_, rf_, H', ⟨Nat.le_refl _⟩, ⟨hw_ HB⟩⟩
 case round => as_aux_lemma =>
  clear H'
  obtain ⟨a5, a4, rfl, rfl, HA, b4, HB⟩ := hrel
  cases gk with
  | zero => exact absurd HA.out (by simp [impl_gcd.l0])
  | succ k1 =>
   have H := HA.out; clear HA
   simp only [impl_gcd.l0] at H
   by_cases c3 : a4 = 0
   ·rw [if_pos c3] at H; have b1 : (a4 == 0) = true := beq_iff_eq.mpr c3; have b2 : (a4 != 0) = false := bne_eq_false_iff_eq.mpr c3; clear c3; replace H := Option.bind_eq_some_iff.mp H; obtain ⟨a6, b5, H⟩ := H; (try dsimp only at H); have A4 := mk_ b5; clear b5; obtain rfl := Option.some.inj H
    go_wp2_with (first | (go_at_call 104; (with_reducible refine (impl_size.calls a5 a6 _ A4.out).mono ?_); rintro e w5 ⟨rfl, hb⟩; replace HB := hk_ HB hb; (try clear hb); (try clear b3); (try clear hk); (try clear hi)))
    repeat (go_quiet (first | (go_at_call 104; (with_reducible refine (impl_size.calls a5 a6 _ A4.out).mono ?_); rintro e w5 ⟨rfl, hb⟩; replace HB := hk_ HB hb; (try clear hb); (try clear b3); (try clear hk); (try clear hi))); try go_wp2_with (first | (go_at_call 104; (with_reducible refine (impl_size.calls a5 a6 _ A4.out).mono ?_); rintro e w5 ⟨rfl, hb⟩; replace HB := hk_ HB hb; (try clear hb); (try clear b3); (try clear hk); (try clear hi))))
    go_ret
    exact ⟨re_, hw_ HB⟩
   ·rw [if_neg c3] at H; have b1 : (a4 == 0) = false := beq_eq_false_iff_ne.mpr c3; have b2 : (a4 != 0) = true := bne_iff_ne.mpr c3
    have H' := mk_ H
    clear H; go_wp2
    repeat (go_quiet (fail); try go_wp2)
    go_roundg k1
    case measure => have := b4.out; omega
    case rel => exact ⟨(a4), (Int.tmod a5 a4), rf_, rf_, H', ⟨by have := b4.out; omega⟩, ⟨hw_ HB⟩⟩

/-! ### impl_frac: function 68 -/
def impl_frac.f (k : Nat) (a0 : Int) (a1 : Int) : Option (Int × Int) := (impl_gcd.f k a0 a1).bind fun a2 => (if a2 = 0 then (none) else (some (wrap64 (Int.tdiv a0 a2), wrap64 (Int.tdiv a1 a2))))
theorem impl_frac.mono : ∀ a0 a1 k, LeO (impl_frac.f k a0 a1) (impl_frac.f (k + 1) a0 a1) := by
 intro a0 a1 k
 unfold impl_frac.f
 repeat' first
   | (with_reducible exact impl_gcd.mono _ _ _)
   | (with_reducible exact LeO.refl _)
   | (with_reducible exact LeO.none _)
   | (with_reducible refine LeO.ite ?_ ?_)
   | (with_reducible refine LeO.bind ?_ (fun _ => ?_))
   | exact impl_gcd.mono _ _ _
   | exact LeO.none _
   | refine LeO.ite ?_ ?_
   | refine LeO.bind ?_ (fun _ => ?_)
def impl_frac.T2 : Bool × List (List Nat × List Nat) := (true, [([], []), ([], []), ([0, 1], [0, 1]), ([], []), ([], []), ([3, 4], [3, 4]), ([2, 5], [2, 5]), ([6, 0, 1, 2, 3, 4, 5, 6], [6])])
def impl_frac.B2 : List Nat := [0, 0, 3, 0, 0, 24, 63, 127]
theorem impl_frac.tab2 : rtab .any (opsOf Try.f68 2) = impl_frac.T2 := by kernel_rfl
theorem impl_frac.bits2 : waitsOk impl_frac.T2.2 impl_frac.B2 = true := by kernel_rfl
set_option maxHeartbeats 8000000 in
set_option maxRecDepth 100000 in
theorem impl_frac.calls (k : Nat) (a0 : Int) (a1 : Int) (r1 : Int) (r2 : Int) (w : World) (h : impl_frac.f k a0 a1 = some (r1, r2)) :
  Calls Try.prog 68 #[.int .i64 a0, .int .i64 a1] w fun e w' => e = .returned (.agg #[.int .i64 r1, .int .i64 r2]) ∧ Below w.heap.size w w' := by
 have b7 := Try.underlying26
 have HB := mk_ (Below.refl w.heap.size w)
 have H : ((impl_gcd.f k a0 a1).bind fun a2 => (if a2 = 0 then (none) else (some (wrap64 (Int.tdiv a0 a2), wrap64 (Int.tdiv a1 a2))))) = some (r1, r2) := h
 clear h; replace H := Option.bind_eq_some_iff.mp H; obtain ⟨a2, b6, H⟩ := H
 replace H : (if a2 = 0 then (none) else (some (wrap64 (Int.tdiv a0 a2), wrap64 (Int.tdiv a1 a2)))) = some (r1, r2) := H
 have A3 := mk_ b6; clear b6; by_cases c4 : a2 = 0
 ·rw [if_pos c4] at H
  exact absurd H (by simp)
 ·rw [if_neg c4] at H; have b8 : (a2 == 0) = false := beq_eq_false_iff_ne.mpr c4; have b9 : (a2 != 0) = true := bne_iff_ne.mpr c4
  simp only [Option.some.injEq, Prod.mk.injEq] at H
  obtain ⟨rfl, rfl⟩ := H
  go_enter Try.func68, Try.ntmps68
  try go_wp2_with (first | ((with_reducible refine gd_ 4 rfl ?_); refine box_event ?hg (N := 4) ?hd (cs := #[.int .i64 0, .int .i64 0]) (t := 26) ?hr ?_; (case hd => rfl); (case hg => rfl); (case hr => exact hr_); intro a7 hg w5 hbox hb; have a3 := mk_ (hbox); have a9 := gb_ hg HB; replace HB := bp_ HB hb; have b0 := a9; clear hb hbox hg) | ((with_reducible refine gc_ 90 rfl ?_); refine gl_ (some 8) rfl Try.func90 #[.int .i64 a0, .int .i64 a1] ?_; (with_reducible refine (impl_gcd.calls k a0 a1 a2 _ A3.out).mono ?_); rintro e w6 ⟨rfl, hb⟩; refine ⟨_, rfl, ?_⟩; replace a3 := bl_ a3 hb; replace HB := bp_ HB hb; (try clear hb); (try clear b3); (try clear hk); (try clear hi)))
  replace a3 := dB_ a3; replace HB := dH_ HB
  refine start_ (n := 8) (S := fun w' => True) (ds := []) (bs_ 8 0) (by kernel_rfl) rfl rfl trivial (fun hHeld => ?_); refine with_tabW impl_frac.tab2 impl_frac.bits2 (fun HT_ HW_ => ?_)
  generalize w6.drew = w7 at a3 HB hHeld ⊢
  refine pu_ HT_ 0 9 (bs_ 8 1) ?_; refine pu_ HT_ 1 10 (bs_ 8 3) ?_; refine pu_ HT_ 2 11 (bs_ 8 7) ?_; refine pu_ HT_ 3 12 (bs_ 8 15) ?_; refine pu_ HT_ 4 13 (bs_ 8 31) ?_; refine pu_ HT_ 5 14 (bs_ 8 63) ?_; refine pu_ HT_ 6 15 (bs_ 8 127) ?_
  refine one_ (i := 7) (N := none) (bs_ 8 255) rfl rfl (one_of HT_.out (by kernel_rfl)) (by decide) (fun K hK => ?_)
  have c5 : w7.cell? ⟨a7, 0, none⟩ = some (.int .i64 0) := bc0_ a3
  have c1 := blk_frozen a3.out 0
  have c6 : w7.cell? ⟨a7, 1, none⟩ = some (.int .i64 0) := bc1_ a3
  have c2 := blk_frozen a3.out 1
  refine skip_ (w1 := ?_) (by rfl) rfl ?_ ?_
  rotate_left
  ·go_simp
   rfl
  refine hK.out _ _ trivial (fun hHeld => ?_)
  clear hK K
  refine done_ (done_of HT_.out (by kernel_rfl)) ?_
  try go_wp2
  refine bodyPost_ret (results_cell_row rfl _ _ a7 26 #[.int .i64 (wrap64 (Int.tdiv a0 a2)), .int .i64 (wrap64 (Int.tdiv a1 a2))] (0, 0) _ rfl (by (with_reducible repeat (first | refine blk_drewN ?_ _ | refine blk_drew ?_ | refine blk_alloc ?_ _)); refine blk_put (cs := #[.int .i64 (wrap64 (Int.tdiv a0 a2)), .int .i64 0]) ?_ 1 _ rfl; (with_reducible repeat (first | refine blk_drewN ?_ _ | refine blk_drew ?_ | refine blk_alloc ?_ _)); refine blk_put (cs := #[.int .i64 0, .int .i64 0]) ?_ 0 _ rfl; (with_reducible repeat (first | refine blk_drewN ?_ _ | refine blk_drew ?_ | refine blk_alloc ?_ _)); exact a3.out) Try.underlying26 rfl (by kernel_rfl)) rfl ?_
  exact ⟨re_, by repeat (first | (with_reducible first | exact HB.out | apply below_alloc | apply pw_below_drewN | apply below_drew1 | refine below_set ?_ b0.out) | exact HB.out)⟩

end Go.Proofs.Ytkginilghcepbaa.QFnGrid
-- squeezed
