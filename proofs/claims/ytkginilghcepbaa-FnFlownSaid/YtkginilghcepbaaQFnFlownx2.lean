/- Lean functions that tell what the Go functions used by one law answer, and for each a proof that the Go code comes to just these answers; no condition. Printed by this session's own program over the kit's printer. -/
import Derived.Test.YtkginilghcepbaaWSq
import Derived.Test.YtkginilghcepbaaQFnFlownx0
namespace Go.Proofs.Ytkginilghcepbaa.QFnFlown
open Go.RowKit Go.Proofs.YtkginilghcepbaaW.PrintWords Go.Proofs.YtkginilghcepbaaW.PrintLast Go.Proofs.YtkginilghcepbaaW.PrintMore
attribute [local go_sem] max2_int min2_int max_two min_two max_three min_three max_four min_four   -- for this text's walks alone
attribute [local go_sem high] go_eql go_neq go_lss go_leq go_gtr go_geq go_store   -- for this text's walks alone
set_option linter.unusedVariables false
set_option linter.unusedSimpArgs false

/-! ### laws_big: function 23 -/
def laws_big.f (l0 : List Int) : Option (Bool) := some (decide ((l0.length : Int) > 1048576))
set_option maxHeartbeats 8000000 in
set_option maxRecDepth 100000 in
theorem laws_big.calls (A0 : Option Addr) (c0 : Nat) (l0 : List Int) (r : Bool) (w : World) (hr0 : Kd.C (Kd.int .u8) w A0 l0.length l0) (hc0 : l0.length ≤ c0) (h : laws_big.f l0 = some r) :
  Calls Try.prog 23 #[.slice A0 l0.length c0] w fun e w' => e = .returned (.bool r) ∧ Drawn0 w w' := by
 have g5 := mk_ hr0; have m6 := mk_ hc0; clear hr0 hc0
 have H : (some (decide ((l0.length : Int) > 1048576))) = some r := h
 clear h; obtain rfl := Option.some.inj H
 go_enter Try.func23, Try.ntmps23
 go_wp2; go_ret
 exact ⟨by first | rfl | (simp; done) | (simp [*]; done), by repeat (first | exact Drawn0.refl _ | apply Drawn0.step)⟩

/-! ### laws_at: function 24 -/
def laws_at.f (l0 : List Int) (a1 : Int) : Option (Int) := if a1 < (l0.length : Int) then (if 0 ≤ a1 then (some (wrap64 (rd l0 a1))) else (none)) else (some (Int.tmod (wrap64 ((wrap64 (a1 * 7)) + (l0.length : Int))) 256))
set_option maxHeartbeats 8000000 in
set_option maxRecDepth 100000 in
theorem laws_at.calls (A0 : Option Addr) (c0 : Nat) (l0 : List Int) (a1 : Int) (r : Int) (w : World) (hr0 : Kd.C (Kd.int .u8) w A0 l0.length l0) (hc0 : l0.length ≤ c0) (h : laws_at.f l0 a1 = some r) :
  Calls Try.prog 24 #[.slice A0 l0.length c0, .int .i64 a1] w fun e w' => e = .returned (.int .i64 r) ∧ Drawn0 w w' := by
 have g5 := mk_ hr0; have m6 := mk_ hc0; clear hr0 hc0
 have H : (if a1 < (l0.length : Int) then (if 0 ≤ a1 then (some (wrap64 (rd l0 a1))) else (none)) else (some (Int.tmod (wrap64 ((wrap64 (a1 * 7)) + (l0.length : Int))) 256))) = some r := h
 clear h; by_cases c3 : a1 < (l0.length : Int)
 ·rw [if_pos c3] at H; have b7 : decide (a1 < (l0.length : Int)) = true := decide_eq_true c3; clear c3; by_cases c4 : 0 ≤ a1
  ·rw [if_pos c4] at H; have c1 : decide (0 ≤ a1) = true := decide_eq_true c4; clear c4; obtain rfl := Option.some.inj H
   have d1 : 0 ≤ (a1 : Int) := od_
   have d2 : a1 < (l0.length : Int) := od_
   obtain ⟨m7, j8, j5⟩ := Kd.at_int g5.out a1 d1 d2; cases j8; replace d1 := eq_true d1; replace d2 := eq_true d2
   go_enter Try.func24, Try.ntmps24
   go_wp2; go_ret
   exact ⟨by first | rfl | (simp; done) | (simp [*]; done), by repeat (first | exact Drawn0.refl _ | apply Drawn0.step)⟩
  ·rw [if_neg c4] at H
   exact absurd H (by simp)
 ·rw [if_neg c3] at H; have b7 : decide (a1 < (l0.length : Int)) = false := decide_eq_false c3; clear c3; obtain rfl := Option.some.inj H
  go_enter Try.func24, Try.ntmps24
  go_wp2; go_ret
  exact ⟨by first | rfl | (simp; done) | (simp [*]; done), by repeat (first | exact Drawn0.refl _ | apply Drawn0.step)⟩

/-- A state of type 141 at block g of W; what its slices lead to came in by w0. -/
def IsS141 (w0 W : World) (g : Nat) (f0 : List Int) (f1 : Int) (f2 : Int) : Prop := ∃ A0 c0, W.heap[g]? = some (.cells #[.slice A0 f0.length c0, .int .i64 f1, .int .i64 f2] 141 (0, 0)) ∧ w0.heap.size ≤ g ∧ Kd.C (Kd.int .u8) w0 A0 f0.length f0
theorem IsS141.grown {w0 W : World} {g : Nat} {f0 : List Int} {f1 : Int} {f2 : Int} {W1 : World} {row : Option Nat} (h : IsS141 w0 W g f0 f1 f2) (hw : W.grownBy W1 row) (hne : some g ≠ row) : IsS141 w0 W1 g f0 f1 f2 := by
 obtain ⟨A0, c0, hb, hg, hr0⟩ := h
 exact ⟨A0, c0, blk_grown hb hw hne, hg, hr0⟩
theorem IsS141.own_neN {w0 W : World} {g : Nat} {f0 : List Int} {f1 : Int} {f2 : Int} {α : Type} {d : Kd α} {e : Nat} {base : Nat} {ok : Nat → Prop} {v : Value} {xs : List α} (h : IsS141 w0 W g f0 f1 f2) (ho : Kd.N d e W base ok v xs) (ht : e ≠ 141) : some g ≠ v.ownBlock := by
 obtain ⟨A0, c0, hb, hg, hr0⟩ := h
 exact Kd.N_ne ho hb ht
theorem IsS141.fresh {w0 W : World} {g : Nat} {f0 : List Int} {f1 : Int} {f2 : Int} (h : IsS141 w0 W g f0 f1 f2) : ∀ k, W.heap.size ≤ k → k ≠ g := by
 obtain ⟨A0, c0, hb, hg, hr0⟩ := h
 exact Kd.freshB hb
theorem IsS141.kept {w0 W : World} {g : Nat} {f0 : List Int} {f1 : Int} {f2 : Int} {W1 : World} {S : Nat → Prop} (h : IsS141 w0 W g f0 f1 f2) (hk : Kept W W1 S) (hne : ¬ S g) : IsS141 w0 W1 g f0 f1 f2 := by
 obtain ⟨A0, c0, hb, hg, hr0⟩ := h
 exact ⟨A0, c0, blk_kept hb hk hne, hg, hr0⟩
theorem IsS141.below {w0 W : World} {g : Nat} {f0 : List Int} {f1 : Int} {f2 : Int} {W1 : World} (h : IsS141 w0 W g f0 f1 f2) (hw : Below W.heap.size W W1) : IsS141 w0 W1 g f0 f1 f2 := h.grown (grown_of_below hw none) (by simp)
theorem IsS141.alloc {w0 W : World} {g : Nat} {f0 : List Int} {f1 : Int} {f2 : Int} (h : IsS141 w0 W g f0 f1 f2) (o : Obj) : IsS141 w0 (W.alloc o) g f0 f1 f2 := h.below (below_alloc (Below.refl _ _) o)
theorem IsS141.drewN {w0 W : World} {g : Nat} {f0 : List Int} {f1 : Int} {f2 : Int} (h : IsS141 w0 W g f0 f1 f2) (m : Nat) : IsS141 w0 (W.drewN m) g f0 f1 f2 := h
theorem IsS141.drew {w0 W : World} {g : Nat} {f0 : List Int} {f1 : Int} {f2 : Int} (h : IsS141 w0 W g f0 f1 f2) : IsS141 w0 W.drew g f0 f1 f2 := h
theorem IsS141.at_ {w0 W : World} {g : Nat} {f0 : List Int} {f1 : Int} {f2 : Int} {w' : World} {m : Nat} (hq : W.drewN m = w') (h : IsS141 w0 W g f0 f1 f2) : IsS141 w0 w' g f0 f1 f2 := by subst hq; exact IsS141.drewN h m
theorem IsS141.apart {w0 W : World} {g : Nat} {f0 : List Int} {f1 : Int} {f2 : Int} {α : Type} {d : Kd α} {e : Nat} {base : Nat} {ok : Nat → Prop} {v : Value} {xs : List α} (h : IsS141 w0 W g f0 f1 f2) (ho : d.R e W base ok v xs) (ht : ∀ q, q ∈ e :: d.E → q ≠ 141) : d.R e W base (fun k => ok k ∧ k ≠ g) v xs := by
 obtain ⟨A0, c0, hb, hg, hr0⟩ := h
 exact Kd.R_types ho hb ht
theorem IsS141.own_ne {w0 W : World} {g : Nat} {f0 : List Int} {f1 : Int} {f2 : Int} {α : Type} {d : Kd α} {e : Nat} {base : Nat} {ok : Nat → Prop} {v : Value} {xs : List α} (h : IsS141 w0 W g f0 f1 f2) (ho : d.R e W base ok v xs) (ht : e ≠ 141) : some g ≠ v.ownBlock := by
 obtain ⟨A0, c0, hb, hg, hr0⟩ := h
 exact Kd.R_ne ho hb ht
theorem IsS141.apartQ {w0 W : World} {g : Nat} {f0 : List Int} {f1 : Int} {f2 : Int} {α : Type} {d : Kd α} {e : Nat} {base : Nat} {ok : Nat → Prop} {v : Value} {xs : List α} (h : IsS141 w0 W g f0 f1 f2) (ho : d.Q e W base ok v xs) (ht : ∀ q, q ∈ e :: d.E → q ≠ 141) : d.Q e W base (fun k => ok k ∧ k ≠ g) v xs := by
 obtain ⟨A0, c0, hb, hg, hr0⟩ := h
 exact Kd.Q_types ho hb ht
theorem IsS141.own_neQ {w0 W : World} {g : Nat} {f0 : List Int} {f1 : Int} {f2 : Int} {α : Type} {d : Kd α} {e : Nat} {base : Nat} {ok : Nat → Prop} {v : Value} {xs : List α} (h : IsS141 w0 W g f0 f1 f2) (ho : d.Q e W base ok v xs) (ht : e ≠ 141) : some g ≠ v.ownBlock := by
 obtain ⟨A0, c0, hb, hg, hr0⟩ := h
 exact Kd.Q_ne ho hb ht
theorem IsS141.apartS {w0 W : World} {g : Nat} {f0 : List Int} {f1 : Int} {f2 : Int} {α : Type} {d : Kd α} {e : Nat} {base : Nat} {ok : Nat → Prop} {v : Value} {xs : List α} (h : IsS141 w0 W g f0 f1 f2) (ho : d.S e W base ok v xs) (ht : ∀ q, q ∈ e :: d.E → q ≠ 141) : d.S e W base (fun k => ok k ∧ k ≠ g) v xs := by
 obtain ⟨A0, c0, hb, hg, hr0⟩ := h
 exact Kd.S_types ho hb ht
theorem IsS141.own_neS {w0 W : World} {g : Nat} {f0 : List Int} {f1 : Int} {f2 : Int} {α : Type} {d : Kd α} {e : Nat} {base : Nat} {ok : Nat → Prop} {v : Value} {xs : List α} (h : IsS141 w0 W g f0 f1 f2) (ho : d.S e W base ok v xs) (ht : e ≠ 141) : some g ≠ v.ownBlock := by
 obtain ⟨A0, c0, hb, hg, hr0⟩ := h
 exact Kd.S_ne ho hb ht
theorem IsS141.lt {w0 W : World} {g : Nat} {f0 : List Int} {f1 : Int} {f2 : Int} (h : IsS141 w0 W g f0 f1 f2) : g < W.heap.size := by
 obtain ⟨A0, c0, hb, hg, hr0⟩ := h
 exact blk_lt hb
theorem IsS141.ge {w0 W : World} {g : Nat} {f0 : List Int} {f1 : Int} {f2 : Int} (h : IsS141 w0 W g f0 f1 f2) : w0.heap.size ≤ g := by
 obtain ⟨A0, c0, hb, hg, hr0⟩ := h
 exact hg
theorem IsS141.ne_blk {w0 W : World} {g : Nat} {f0 : List Int} {f1 : Int} {f2 : Int} {a : Nat} {cs : Array Value} {t : TypeId} {fr : Nat × Nat} (h : IsS141 w0 W g f0 f1 f2) (hb2 : W.heap[a]? = some (.cells cs t fr)) (ht : t ≠ 141) : g ≠ a := by
 obtain ⟨A0, c0, hb, hg, hr0⟩ := h
 rintro rfl
 rw [hb] at hb2
 injection hb2 with hb2
 injection hb2 with _ ht2
 exact ht ht2.symm
theorem IsS141.far {w0 W : World} {g : Nat} {f0 : List Int} {f1 : Int} {f2 : Int} {p : Addr} (h : IsS141 w0 W g f0 f1 f2) (hne : g ≠ p.block) (u : Value) : IsS141 w0 (W.setCell p u) g f0 f1 f2 := by
 obtain ⟨A0, c0, hb, hg, hr0⟩ := h
 exact ⟨A0, c0, blk_far hb hne u, hg, hr0⟩
theorem cellS141_0 {W : World} {g : Nat} {A0 : Option Addr} {c0 : Nat} {f0 : List Int} {f1 : Int} {f2 : Int} (h : W.heap[g]? = some (.cells #[.slice A0 f0.length c0, .int .i64 f1, .int .i64 f2] 141 (0, 0))) : W.cell? ⟨g, 0, none⟩ = some (.slice A0 f0.length c0) := (blk_cell h 0).trans rfl
theorem cellS141_1 {W : World} {g : Nat} {A0 : Option Addr} {c0 : Nat} {f0 : List Int} {f1 : Int} {f2 : Int} (h : W.heap[g]? = some (.cells #[.slice A0 f0.length c0, .int .i64 f1, .int .i64 f2] 141 (0, 0))) : W.cell? ⟨g, 1, none⟩ = some (.int .i64 f1) := (blk_cell h 1).trans rfl
theorem IsS141.set_1 {w0 W : World} {g : Nat} {f0 : List Int} {f1 : Int} {f2 : Int} (h : IsS141 w0 W g f0 f1 f2) (x : Int) : IsS141 w0 (W.setCell ⟨g, 1, none⟩ (.int .i64 x)) g f0 x f2 := by
 obtain ⟨A0, c0, hb, hg, hr0⟩ := h
 exact ⟨A0, c0, by simpa using blk_set hb 1 (.int .i64 x), hg, hr0⟩
theorem cellS141_2 {W : World} {g : Nat} {A0 : Option Addr} {c0 : Nat} {f0 : List Int} {f1 : Int} {f2 : Int} (h : W.heap[g]? = some (.cells #[.slice A0 f0.length c0, .int .i64 f1, .int .i64 f2] 141 (0, 0))) : W.cell? ⟨g, 2, none⟩ = some (.int .i64 f2) := (blk_cell h 2).trans rfl
theorem IsS141.set_2 {w0 W : World} {g : Nat} {f0 : List Int} {f1 : Int} {f2 : Int} (h : IsS141 w0 W g f0 f1 f2) (x : Int) : IsS141 w0 (W.setCell ⟨g, 2, none⟩ (.int .i64 x)) g f0 f1 x := by
 obtain ⟨A0, c0, hb, hg, hr0⟩ := h
 exact ⟨A0, c0, by simpa using blk_set hb 2 (.int .i64 x), hg, hr0⟩
theorem IsS141.new (w0 W : World) (A0 : Option Addr) (c0 : Nat) (f0 : List Int) (f1 : Int) (f2 : Int) (hB : Below w0.heap.size w0 W) (hr0 : Kd.C (Kd.int .u8) w0 A0 f0.length f0) : IsS141 w0 (W.alloc (.cells #[.slice A0 f0.length c0, .int .i64 f1, .int .i64 f2] 141)) W.heap.size f0 f1 f2 := ⟨A0, c0, by simpa using heap_alloc_new W _, hB.size, hr0⟩

/-! ### spec_l1New: function 80 -/
def spec_l1New.l0 : Nat → List Int → Int → Int → Option (List Int × Int × Int)
 | 0, _, _, _ => none
 | k + 1, x0, x3, x4 => if x4 < (x0.length : Int) then (if x4 < 4000 then (if 0 ≤ x4 then (spec_l1New.l0 k x0 (Go.bits .and .i64 (wrap64 ((wrap64 ((wrap64 (x3 * 131)) + (wrap64 (rd x0 x4)))) + 7)) 1073741823) (wrap64 (x4 + 1))) else (none)) else (some (x0, 0, x3))) else (some (x0, 0, x3))
def spec_l1New.f (k : Nat) (l0 : List Int) : Option (List Int × Int × Int) := spec_l1New.l0 k l0 (wrap64 (63063 + (l0.length : Int))) 0
theorem spec_l1New.mono_l : ∀ k, (∀ y0 y1 y2, LeO (spec_l1New.l0 k y0 y1 y2) (spec_l1New.l0 (k + 1) y0 y1 y2))
 | 0 => fun _ _ _ r h => by simp [spec_l1New.l0] at h
 | k + 1 => by
  have g6 := spec_l1New.mono_l k
  ·intro y0 y1 y2
   unfold spec_l1New.l0
   repeat' first
   | (with_reducible exact g6 _ _ _)
   | (with_reducible exact LeO.refl _)
   | (with_reducible exact LeO.none _)
   | (with_reducible refine LeO.ite ?_ ?_)
   | (with_reducible refine LeO.bind ?_ (fun _ => ?_))
   | exact g6 _ _ _
   | exact LeO.none _
   | refine LeO.ite ?_ ?_
   | refine LeO.bind ?_ (fun _ => ?_)
theorem spec_l1New.mono : ∀ a0 k, LeO (spec_l1New.f k a0) (spec_l1New.f (k + 1) a0) := by
 intro a0 k
 have g6 := spec_l1New.mono_l k
 unfold spec_l1New.f
 repeat' first
   | (with_reducible exact g6 _ _ _)
   | (with_reducible exact LeO.refl _)
   | (with_reducible exact LeO.none _)
   | (with_reducible refine LeO.ite ?_ ?_)
   | (with_reducible refine LeO.bind ?_ (fun _ => ?_))
   | exact g6 _ _ _
   | exact LeO.none _
   | refine LeO.ite ?_ ?_
   | refine LeO.bind ?_ (fun _ => ?_)
set_option maxHeartbeats 8000000 in
set_option maxRecDepth 100000 in
theorem spec_l1New.calls (k : Nat) (A0 : Option Addr) (c0 : Nat) (l0 : List Int) (r1 : List Int) (r2 : Int) (r3 : Int) (w0 w : World) (hB : Below w0.heap.size w0 w) (hr0 : Kd.C (Kd.int .u8) w0 A0 l0.length l0) (hc0 : l0.length ≤ c0) (h : spec_l1New.f k l0 = some (r1, r2, r3)) :
  Calls Try.prog 80 #[.slice A0 l0.length c0] w fun e w' => ∃ g_ : Nat, e = .returned (.pointer (some ⟨g_, 0, none⟩)) ∧ IsS141 w0 w' g_ r1 r2 r3 ∧ Below w0.heap.size w0 w' ∧ Below w.heap.size w w' := by
 have m8 := Try.underlying141
 have g5 := mk_ hr0; have m6 := mk_ hc0; clear hr0 hc0; have HBW := mk_ (Below.refl w.heap.size w); have HW0 := mk_ hB.size; have HB := mk_ hB; clear hB
 have H : (spec_l1New.l0 k l0 (wrap64 (63063 + (l0.length : Int))) 0) = some (r1, r2, r3) := h
 clear h
 have H' := mk_ H
 clear H
 go_enter Try.func80, Try.ntmps80
 go_wp2
 go_loopg [3, 4] k (fun kq v3 v4 w' => ∃ (b8 : Int) (a9 : Int), v3 = .int .i64 b8 ∧ v4 = .int .i64 a9 ∧ Aside0 (spec_l1New.l0 kq l0 b8 a9 = some (r1, r2, r3)) ∧ Aside0 (kq ≤ k) ∧ Aside0 (Below w.heap.size w w') ∧ Aside0 (Below w0.heap.size w0 w'))
 case atStart => exact ⟨(wrap64 (63063 + (l0.length : Int))), (0), rf_, rf_, H', ⟨Nat.le_refl _⟩, ⟨hw_ HBW⟩, ⟨hw_ HB⟩⟩
 case round =>
  clear H'
  obtain ⟨b8, a9, rfl, rfl, HA, m9, HBW, HB⟩ := hrel
  cases gk with
  | zero => exact absurd HA.out (by simp [spec_l1New.l0])
  | succ k1 =>
   have H := HA.out; clear HA
   simp only [spec_l1New.l0] at H
   by_cases c2 : a9 < (l0.length : Int)
   ·rw [if_pos c2] at H; have d3 : decide (a9 < (l0.length : Int)) = true := decide_eq_true c2; clear c2; by_cases c3 : a9 < 4000
    ·rw [if_pos c3] at H; have b7 : decide (a9 < 4000) = true := decide_eq_true c3; clear c3; by_cases c4 : 0 ≤ a9
     ·rw [if_pos c4] at H; have c1 : decide (0 ≤ a9) = true := decide_eq_true c4; clear c4
      have H' := mk_ H
      clear H
      have d4 : 0 ≤ (a9 : Int) := od_
      have d5 : a9 < (l0.length : Int) := od_
      obtain ⟨n0, j9, b9⟩ := Kd.at_int g5.out a9 d4 d5; cases j9
      replace b9 := pw_cell_below HB.out b9
      replace d4 := eq_true d4; replace d5 := eq_true d5; go_wp2; go_roundg k1
      case measure => have := m9.out; omega
      case rel => exact ⟨(Go.bits .and .i64 (wrap64 ((wrap64 ((wrap64 (b8 * 131)) + (wrap64 (rd l0 a9)))) + 7)) 1073741823), (wrap64 (a9 + 1)), rf_, rf_, H', ⟨by have := m9.out; omega⟩, ⟨hw_ HBW⟩, ⟨hw_ HB⟩⟩
     ·rw [if_neg c4] at H
      exact absurd H (by simp)
    ·rw [if_neg c3] at H; have b7 : decide (a9 < 4000) = false := decide_eq_false c3; clear c3
     simp only [Option.some.injEq, Prod.mk.injEq] at H
     obtain ⟨rfl, rfl, rfl⟩ := H
     go_wp2_with (first | ((with_reducible refine gd_ 31 rfl ?_); refine box_event ?hg (N := 31) ?hd (cs := #[.slice A0 l0.length c0, .int .i64 0, .int .i64 b8]) (t := 141) ?hr ?_; (case hd => rfl); (case hg => rfl); (case hr => exact hr_); intro c7 hg w5 hbox hb; replace HB := bp_ HB hb; have g7 := mk_ (hbox); have n1 := gb_ hg HBW; have g8 := mk_ ((Nat.le_trans HW0.out (by rw [hg]; exact (below_size (by exact HBW.out)) : w.heap.size ≤ c7) : w0.heap.size ≤ c7)); replace HBW := mk_ (below_step HBW.out hb); clear hb hbox hg))
     go_ret
     exact ⟨_, rfl, (show IsS141 w0 _ c7 l0 0 b8 from ⟨_, _, by (with_reducible repeat (first | refine blk_drewN ?_ _ | refine blk_drew ?_ | refine blk_alloc ?_ _)); exact g7.out, g8.out, g5.out⟩), hw_ HB, hw_ HBW⟩
   ·rw [if_neg c2] at H; have d3 : decide (a9 < (l0.length : Int)) = false := decide_eq_false c2; clear c2
    simp only [Option.some.injEq, Prod.mk.injEq] at H
    obtain ⟨rfl, rfl, rfl⟩ := H
    go_wp2_with (first | ((with_reducible refine gd_ 31 rfl ?_); refine box_event ?hg (N := 31) ?hd (cs := #[.slice A0 l0.length c0, .int .i64 0, .int .i64 b8]) (t := 141) ?hr ?_; (case hd => rfl); (case hg => rfl); (case hr => exact hr_); intro c8 hg w6 hbox hb; replace HB := bp_ HB hb; have g9 := mk_ (hbox); have n2 := gb_ hg HBW; have h2 := mk_ ((Nat.le_trans HW0.out (by rw [hg]; exact (below_size (by exact HBW.out)) : w.heap.size ≤ c8) : w0.heap.size ≤ c8)); replace HBW := mk_ (below_step HBW.out hb); clear hb hbox hg))
    go_ret
    exact ⟨_, rfl, (show IsS141 w0 _ c8 l0 0 b8 from ⟨_, _, by (with_reducible repeat (first | refine blk_drewN ?_ _ | refine blk_drew ?_ | refine blk_alloc ?_ _)); exact g9.out, h2.out, g5.out⟩), hw_ HB, hw_ HBW⟩

/-! ### spec_l1Byte: function 106 -/
def spec_l1Byte.f (s0_0 : List Int) (s0_1 : Int) (s0_2 : Int) : Option (Int × Int × Int) := if s0_1 < (s0_0.length : Int) then (if 0 ≤ s0_1 then (some (Go.bits .and .i64 (wrap64 ((Go.bits .and .i64 (Go.bits .xor .i64 ((wrap64 ((wrap64 (s0_2 * 6364136223846793005)) + 1442695040888963407)) / 8589934592) ((wrap64 ((wrap64 (s0_2 * 6364136223846793005)) + 1442695040888963407)) / 35184372088832)) 255) + (wrap64 (rd s0_0 s0_1)))) 255, wrap64 (s0_1 + 1), wrap64 ((wrap64 (s0_2 * 6364136223846793005)) + 1442695040888963407))) else (none)) else (some (Go.bits .and .i64 (Go.bits .xor .i64 ((wrap64 ((wrap64 (s0_2 * 6364136223846793005)) + 1442695040888963407)) / 8589934592) ((wrap64 ((wrap64 (s0_2 * 6364136223846793005)) + 1442695040888963407)) / 35184372088832)) 255, s0_1, wrap64 ((wrap64 (s0_2 * 6364136223846793005)) + 1442695040888963407)))
set_option maxHeartbeats 8000000 in
set_option maxRecDepth 100000 in
theorem spec_l1Byte.calls (g : Nat) (s0_0 : List Int) (s0_1 : Int) (s0_2 : Int) (r1 : Int) (r2 : Int) (r3 : Int) (w0 w : World) (hI : IsS141 w0 w g s0_0 s0_1 s0_2) (hB : Below w0.heap.size w0 w) (h : spec_l1Byte.f s0_0 s0_1 s0_2 = some (r1, r2, r3)) :
  Calls Try.prog 106 #[.pointer (some ⟨g, 0, none⟩)] w fun e w' => e = .returned (.int .i64 r1) ∧ IsS141 w0 w' g s0_0 r2 r3 ∧ Below w0.heap.size w0 w' ∧ KeepBut w w' g none := by
 have a4 := mk_ hI; have HK := mk_ (KeepBut.refl w g none); have HL := mk_ hB.size; clear hI; have HW0 := mk_ hB.size; have HB := mk_ hB; clear hB
 have H : (if s0_1 < (s0_0.length : Int) then (if 0 ≤ s0_1 then (some (Go.bits .and .i64 (wrap64 ((Go.bits .and .i64 (Go.bits .xor .i64 ((wrap64 ((wrap64 (s0_2 * 6364136223846793005)) + 1442695040888963407)) / 8589934592) ((wrap64 ((wrap64 (s0_2 * 6364136223846793005)) + 1442695040888963407)) / 35184372088832)) 255) + (wrap64 (rd s0_0 s0_1)))) 255, wrap64 (s0_1 + 1), wrap64 ((wrap64 (s0_2 * 6364136223846793005)) + 1442695040888963407))) else (none)) else (some (Go.bits .and .i64 (Go.bits .xor .i64 ((wrap64 ((wrap64 (s0_2 * 6364136223846793005)) + 1442695040888963407)) / 8589934592) ((wrap64 ((wrap64 (s0_2 * 6364136223846793005)) + 1442695040888963407)) / 35184372088832)) 255, s0_1, wrap64 ((wrap64 (s0_2 * 6364136223846793005)) + 1442695040888963407)))) = some (r1, r2, r3) := h
 clear h; by_cases c2 : s0_1 < (s0_0.length : Int)
 ·rw [if_pos c2] at H; have d3 : decide (s0_1 < (s0_0.length : Int)) = true := decide_eq_true c2; clear c2; by_cases c3 : 0 ≤ s0_1
  ·rw [if_pos c3] at H; have b7 : decide (0 ≤ s0_1) = true := decide_eq_true c3; clear c3
   simp only [Option.some.injEq, Prod.mk.injEq] at H
   obtain ⟨rfl, rfl, rfl⟩ := H
   obtain ⟨ASz4_0, cSz4_0, HGz4, hgz4, HSz4_0⟩ := a4.out
   have l1 := cellS141_0 HGz4
   have l2 := cellS141_1 HGz4
   have l3 := cellS141_2 HGz4
   have l4 := blk_frozen HGz4 1
   have l5 := blk_frozen HGz4 2
   clear HGz4 hgz4
   have d6 : 0 ≤ (s0_1 : Int) := od_
   have d7 : s0_1 < (s0_0.length : Int) := od_
   obtain ⟨h3, l6, a8⟩ := Kd.at_int HSz4_0 s0_1 d6 d7; cases l6
   have hn105_0 : h3.block ≠ g := Nat.ne_of_lt (Nat.lt_of_lt_of_le (by have := World.block_lt_of_cell? _ _ a8; first | rwa [add_block] at this | exact this) (IsS141.ge a4.out))
   replace a8 := pw_cell_below HB.out a8
   replace a8 := (cell_far (p := ⟨g, 2, none⟩) (by first | (rw [add_block]; exact hn105_0) | (show (Addr.add _ _).block ≠ _; rw [add_block]; exact hn105_0) | exact hn105_0) (.int .i64 (wrap64 ((wrap64 (s0_2 * 6364136223846793005)) + 1442695040888963407)))).trans a8
   (try have j6 := fun (n_ : Nat) => (show (((w.drewN n_).setCell ⟨g, 2, none⟩ (.int .i64 (wrap64 ((wrap64 (s0_2 * 6364136223846793005)) + 1442695040888963407))))).cell? _ = some _ from a8))
   clear hn105_0; replace d6 := eq_true d6; replace d7 := eq_true d7
   go_enter Try.func106, Try.ntmps106
   go_wp2
   repeat (go_quiet (fail); try go_wp2)
   go_ret
   exact ⟨re_, by repeat (first | (with_reducible first | exact a4.out | apply IsS141.alloc | apply IsS141.drewN | apply IsS141.drew | apply IsS141.set_1 | apply IsS141.set_2) | exact a4.out), by repeat (first | (with_reducible first | exact HB.out | apply below_alloc | apply pw_below_drewN | apply below_drew1 | refine below_set ?_ (IsS141.ge a4.out)) | exact HB.out), by repeat (first | (with_reducible first | exact HK.out | apply KeepBut.set_ | apply keep_drewN | apply keep_drew | apply keep_alloc) | exact HK.out)⟩
  ·rw [if_neg c3] at H
   exact absurd H (by simp)
 ·rw [if_neg c2] at H; have d3 : decide (s0_1 < (s0_0.length : Int)) = false := decide_eq_false c2; clear c2
  simp only [Option.some.injEq, Prod.mk.injEq] at H
  obtain ⟨rfl, rfl, rfl⟩ := H
  obtain ⟨ASz5_0, cSz5_0, HGz5, hgz5, HSz5_0⟩ := a4.out
  have l7 := cellS141_0 HGz5
  have l8 := cellS141_1 HGz5
  have l9 := cellS141_2 HGz5
  have m0 := blk_frozen HGz5 1
  have m1 := blk_frozen HGz5 2
  clear HGz5 hgz5
  go_enter Try.func106, Try.ntmps106
  go_wp2
  repeat (go_quiet (fail); try go_wp2)
  go_ret
  exact ⟨re_, by repeat (first | (with_reducible first | exact a4.out | apply IsS141.alloc | apply IsS141.drewN | apply IsS141.drew | apply IsS141.set_1 | apply IsS141.set_2) | exact a4.out), by repeat (first | (with_reducible first | exact HB.out | apply below_alloc | apply pw_below_drewN | apply below_drew1 | refine below_set ?_ (IsS141.ge a4.out)) | exact HB.out), by repeat (first | (with_reducible first | exact HK.out | apply KeepBut.set_ | apply keep_drewN | apply keep_drew | apply keep_alloc) | exact HK.out)⟩

/-! ### spec_l1Below: function 96 -/
def spec_l1Below.f (s0_0 : List Int) (s0_1 : Int) (s0_2 : Int) (a1 : Int) : Option (Int × Int × Int) := if a1 ≤ 0 then (some (0, s0_1, s0_2)) else (if a1 ≤ 256 then ((spec_l1Byte.f s0_0 s0_1 s0_2).bind fun b4 => (if a1 = 0 then (none) else (some (Int.tmod b4.1 a1, b4.2.1, b4.2.2)))) else ((spec_l1Byte.f s0_0 s0_1 s0_2).bind fun b5 => ((spec_l1Byte.f s0_0 b5.2.1 b5.2.2).bind fun a5 => ((spec_l1Byte.f s0_0 a5.2.1 a5.2.2).bind fun a3 => ((spec_l1Byte.f s0_0 a3.2.1 a3.2.2).bind fun a2 => (if a1 = 0 then (none) else (some (Int.tmod (wrap64 ((wrap64 ((wrap64 ((wrap64 (b5.1 * 16777216)) + (wrap64 (a5.1 * 65536)))) + (wrap64 (a3.1 * 256)))) + a2.1)) a1, a2.2.1, a2.2.2))))))))
set_option maxHeartbeats 8000000 in
set_option maxRecDepth 100000 in
theorem spec_l1Below.calls (g : Nat) (s0_0 : List Int) (s0_1 : Int) (s0_2 : Int) (a1 : Int) (r1 : Int) (r2 : Int) (r3 : Int) (w0 w : World) (hI : IsS141 w0 w g s0_0 s0_1 s0_2) (hB : Below w0.heap.size w0 w) (h : spec_l1Below.f s0_0 s0_1 s0_2 a1 = some (r1, r2, r3)) :
  Calls Try.prog 96 #[.pointer (some ⟨g, 0, none⟩), .int .i64 a1] w fun e w' => e = .returned (.int .i64 r1) ∧ IsS141 w0 w' g s0_0 r2 r3 ∧ Below w0.heap.size w0 w' ∧ KeepBut w w' g none := by
 have a4 := mk_ hI; have HK := mk_ (KeepBut.refl w g none); have HL := mk_ hB.size; clear hI; have HW0 := mk_ hB.size; have HB := mk_ hB; clear hB
 have H : (if a1 ≤ 0 then (some (0, s0_1, s0_2)) else (if a1 ≤ 256 then ((spec_l1Byte.f s0_0 s0_1 s0_2).bind fun b4 => (if a1 = 0 then (none) else (some (Int.tmod b4.1 a1, b4.2.1, b4.2.2)))) else ((spec_l1Byte.f s0_0 s0_1 s0_2).bind fun b5 => ((spec_l1Byte.f s0_0 b5.2.1 b5.2.2).bind fun a5 => ((spec_l1Byte.f s0_0 a5.2.1 a5.2.2).bind fun a3 => ((spec_l1Byte.f s0_0 a3.2.1 a3.2.2).bind fun a2 => (if a1 = 0 then (none) else (some (Int.tmod (wrap64 ((wrap64 ((wrap64 ((wrap64 (b5.1 * 16777216)) + (wrap64 (a5.1 * 65536)))) + (wrap64 (a3.1 * 256)))) + a2.1)) a1, a2.2.1, a2.2.2))))))))) = some (r1, r2, r3) := h
 clear h; by_cases c3 : a1 ≤ 0
 ·rw [if_pos c3] at H; have b7 : decide (a1 ≤ 0) = true := decide_eq_true c3; clear c3
  simp only [Option.some.injEq, Prod.mk.injEq] at H
  obtain ⟨rfl, rfl, rfl⟩ := H
  go_enter Try.func96, Try.ntmps96
  go_wp2; go_ret
  exact ⟨re_, by repeat (first | (with_reducible first | exact a4.out | apply IsS141.alloc | apply IsS141.drewN | apply IsS141.drew | apply IsS141.set_1 | apply IsS141.set_2) | exact a4.out), by repeat (first | (with_reducible first | exact HB.out | apply below_alloc | apply pw_below_drewN | apply below_drew1 | refine below_set ?_ (IsS141.ge a4.out)) | exact HB.out), by repeat (first | (with_reducible first | exact HK.out | apply KeepBut.set_ | apply keep_drewN | apply keep_drew | apply keep_alloc) | exact HK.out)⟩
 ·rw [if_neg c3] at H; have b7 : decide (a1 ≤ 0) = false := decide_eq_false c3; clear c3; by_cases c4 : a1 ≤ 256
  ·rw [if_pos c4] at H; have c1 : decide (a1 ≤ 256) = true := decide_eq_true c4; clear c4; replace H := Option.bind_eq_some_iff.mp H; obtain ⟨⟨h4, h5, h6⟩, n3, H⟩ := H
   replace H : (if a1 = 0 then (none) else (some (Int.tmod h4 a1, h5, h6))) = some (r1, r2, r3) := H
   have A5 := mk_ n3; clear n3; by_cases c6 : a1 = 0
   ·rw [if_pos c6] at H
    exact absurd H (by simp)
   ·rw [if_neg c6] at H; have n9 : (a1 == 0) = false := beq_eq_false_iff_ne.mpr c6; have o0 : (a1 != 0) = true := bne_iff_ne.mpr c6
    simp only [Option.some.injEq, Prod.mk.injEq] at H
    obtain ⟨rfl, rfl, rfl⟩ := H
    go_enter Try.func96, Try.ntmps96
    go_wp2_with (first | ((with_reducible refine gc_ 106 rfl ?_); refine gl_ (some 14) rfl Try.func106 #[.pointer (some ⟨g, 0, none⟩)] ?_; (with_reducible refine (spec_l1Byte.calls g s0_0 s0_1 s0_2 h4 h5 h6 w0 _ ?a6 ?a7 A5.out).mono ?_); (case a6 => repeat (first | (with_reducible first | exact a4.out | apply IsS141.alloc | apply IsS141.drewN | apply IsS141.drew | apply IsS141.set_1 | apply IsS141.set_2) | exact a4.out)); (case a7 => exact HB.out); rintro e w7 ⟨rfl, hi, hb, hk⟩; refine ⟨_, rfl, ?_⟩; replace HK := mk_ (KeepBut.trans (by repeat (first | (with_reducible first | exact HK.out | apply KeepBut.set_ | apply keep_drewN | apply keep_drew | apply keep_alloc) | exact HK.out)) hk (.inl rfl)); replace HB := mk_ (hb); replace a4 := mk_ (hi); (try clear hb); (try clear hb2); (try clear hk); (try clear hi)))
    go_ret
    exact ⟨re_, by repeat (first | (with_reducible first | exact a4.out | apply IsS141.alloc | apply IsS141.drewN | apply IsS141.drew | apply IsS141.set_1 | apply IsS141.set_2) | exact a4.out), by repeat (first | (with_reducible first | exact HB.out | apply below_alloc | apply pw_below_drewN | apply below_drew1 | refine below_set ?_ (IsS141.ge a4.out)) | exact HB.out), by repeat (first | (with_reducible first | exact HK.out | apply KeepBut.set_ | apply keep_drewN | apply keep_drew | apply keep_alloc) | exact HK.out)⟩
  ·rw [if_neg c4] at H; have c1 : decide (a1 ≤ 256) = false := decide_eq_false c4; clear c4; replace H := Option.bind_eq_some_iff.mp H; obtain ⟨⟨c9, d8, d9⟩, n4, H⟩ := H
   replace H : ((spec_l1Byte.f s0_0 d8 d9).bind fun a5 => ((spec_l1Byte.f s0_0 a5.2.1 a5.2.2).bind fun a3 => ((spec_l1Byte.f s0_0 a3.2.1 a3.2.2).bind fun a2 => (if a1 = 0 then (none) else (some (Int.tmod (wrap64 ((wrap64 ((wrap64 ((wrap64 (c9 * 16777216)) + (wrap64 (a5.1 * 65536)))) + (wrap64 (a3.1 * 256)))) + a2.1)) a1, a2.2.1, a2.2.2)))))) = some (r1, r2, r3) := H
   have A8 := mk_ n4; clear n4; replace H := Option.bind_eq_some_iff.mp H; obtain ⟨⟨d0, g0, g1⟩, n5, H⟩ := H
   replace H : ((spec_l1Byte.f s0_0 g0 g1).bind fun a3 => ((spec_l1Byte.f s0_0 a3.2.1 a3.2.2).bind fun a2 => (if a1 = 0 then (none) else (some (Int.tmod (wrap64 ((wrap64 ((wrap64 ((wrap64 (c9 * 16777216)) + (wrap64 (d0 * 65536)))) + (wrap64 (a3.1 * 256)))) + a2.1)) a1, a2.2.1, a2.2.2))))) = some (r1, r2, r3) := H
   have A9 := mk_ n5; clear n5; replace H := Option.bind_eq_some_iff.mp H; obtain ⟨⟨g2, g3, g4⟩, h7, H⟩ := H
   replace H : ((spec_l1Byte.f s0_0 g3 g4).bind fun a2 => (if a1 = 0 then (none) else (some (Int.tmod (wrap64 ((wrap64 ((wrap64 ((wrap64 (c9 * 16777216)) + (wrap64 (d0 * 65536)))) + (wrap64 (g2 * 256)))) + a2.1)) a1, a2.2.1, a2.2.2)))) = some (r1, r2, r3) := H
   have o1 := mk_ h7; clear h7; replace H := Option.bind_eq_some_iff.mp H; obtain ⟨⟨h8, h9, j0⟩, j1, H⟩ := H
   replace H : (if a1 = 0 then (none) else (some (Int.tmod (wrap64 ((wrap64 ((wrap64 ((wrap64 (c9 * 16777216)) + (wrap64 (d0 * 65536)))) + (wrap64 (g2 * 256)))) + h8)) a1, h9, j0))) = some (r1, r2, r3) := H
   have o2 := mk_ j1; clear j1; by_cases j7 : a1 = 0
   ·rw [if_pos j7] at H
    exact absurd H (by simp)
   ·rw [if_neg j7] at H; have n6 : (a1 == 0) = false := beq_eq_false_iff_ne.mpr j7; have n7 : (a1 != 0) = true := bne_iff_ne.mpr j7
    simp only [Option.some.injEq, Prod.mk.injEq] at H
    obtain ⟨rfl, rfl, rfl⟩ := H
    go_enter Try.func96, Try.ntmps96
    go_wp2_with (first | ((with_reducible refine gc_ 106 rfl ?_); refine gl_ (some 18) rfl Try.func106 #[.pointer (some ⟨g, 0, none⟩)] ?_; (with_reducible refine (spec_l1Byte.calls g s0_0 s0_1 s0_2 c9 d8 d9 w0 _ ?a6 ?a7 A8.out).mono ?_); (case a6 => repeat (first | (with_reducible first | exact a4.out | apply IsS141.alloc | apply IsS141.drewN | apply IsS141.drew | apply IsS141.set_1 | apply IsS141.set_2) | exact a4.out)); (case a7 => exact HB.out); rintro e o3 ⟨rfl, hi, hb, hk⟩; refine ⟨_, rfl, ?_⟩; replace HK := mk_ (KeepBut.trans (by repeat (first | (with_reducible first | exact HK.out | apply KeepBut.set_ | apply keep_drewN | apply keep_drew | apply keep_alloc) | exact HK.out)) hk (.inl rfl)); replace HB := mk_ (hb); replace a4 := mk_ (hi); (try clear hb); (try clear hb2); (try clear hk); (try clear hi)) | ((with_reducible refine gc_ 106 rfl ?_); refine gl_ (some 20) rfl Try.func106 #[.pointer (some ⟨g, 0, none⟩)] ?_; (with_reducible refine (spec_l1Byte.calls g s0_0 d8 d9 d0 g0 g1 w0 _ ?a6 ?a7 A9.out).mono ?_); (case a6 => repeat (first | (with_reducible first | exact a4.out | apply IsS141.alloc | apply IsS141.drewN | apply IsS141.drew | apply IsS141.set_1 | apply IsS141.set_2) | exact a4.out)); (case a7 => exact HB.out); rintro e o4 ⟨rfl, hi, hb, hk⟩; refine ⟨_, rfl, ?_⟩; replace HK := mk_ (KeepBut.trans (by repeat (first | (with_reducible first | exact HK.out | apply KeepBut.set_ | apply keep_drewN | apply keep_drew | apply keep_alloc) | exact HK.out)) hk (.inl rfl)); replace HB := mk_ (hb); replace a4 := mk_ (hi); (try clear hb); (try clear hb2); (try clear hk); (try clear hi)) | ((with_reducible refine gc_ 106 rfl ?_); refine gl_ (some 22) rfl Try.func106 #[.pointer (some ⟨g, 0, none⟩)] ?_; (with_reducible refine (spec_l1Byte.calls g s0_0 g0 g1 g2 g3 g4 w0 _ ?a6 ?a7 o1.out).mono ?_); (case a6 => repeat (first | (with_reducible first | exact a4.out | apply IsS141.alloc | apply IsS141.drewN | apply IsS141.drew | apply IsS141.set_1 | apply IsS141.set_2) | exact a4.out)); (case a7 => exact HB.out); rintro e o5 ⟨rfl, hi, hb, hk⟩; refine ⟨_, rfl, ?_⟩; replace HK := mk_ (KeepBut.trans (by repeat (first | (with_reducible first | exact HK.out | apply KeepBut.set_ | apply keep_drewN | apply keep_drew | apply keep_alloc) | exact HK.out)) hk (.inl rfl)); replace HB := mk_ (hb); replace a4 := mk_ (hi); (try clear hb); (try clear hb2); (try clear hk); (try clear hi)) | ((with_reducible refine gc_ 106 rfl ?_); refine gl_ (some 24) rfl Try.func106 #[.pointer (some ⟨g, 0, none⟩)] ?_; (with_reducible refine (spec_l1Byte.calls g s0_0 g3 g4 h8 h9 j0 w0 _ ?a6 ?a7 o2.out).mono ?_); (case a6 => repeat (first | (with_reducible first | exact a4.out | apply IsS141.alloc | apply IsS141.drewN | apply IsS141.drew | apply IsS141.set_1 | apply IsS141.set_2) | exact a4.out)); (case a7 => exact HB.out); rintro e o6 ⟨rfl, hi, hb, hk⟩; refine ⟨_, rfl, ?_⟩; replace HK := mk_ (KeepBut.trans (by repeat (first | (with_reducible first | exact HK.out | apply KeepBut.set_ | apply keep_drewN | apply keep_drew | apply keep_alloc) | exact HK.out)) hk (.inl rfl)); replace HB := mk_ (hb); replace a4 := mk_ (hi); (try clear hb); (try clear hb2); (try clear hk); (try clear hi)))
    go_ret
    exact ⟨re_, by repeat (first | (with_reducible first | exact a4.out | apply IsS141.alloc | apply IsS141.drewN | apply IsS141.drew | apply IsS141.set_1 | apply IsS141.set_2) | exact a4.out), by repeat (first | (with_reducible first | exact HB.out | apply below_alloc | apply pw_below_drewN | apply below_drew1 | refine below_set ?_ (IsS141.ge a4.out)) | exact HB.out), by repeat (first | (with_reducible first | exact HK.out | apply KeepBut.set_ | apply keep_drewN | apply keep_drew | apply keep_alloc) | exact HK.out)⟩

/-! ### spec_l1Once: function 99 -/
def spec_l1Once.f (s0_0 : List Int) (s0_1 : Int) (s0_2 : Int) (a1 : Int) : Option (Bool × Int × Int) := (spec_l1Below.f s0_0 s0_1 s0_2 a1).bind fun b6 => (some ((b6.1 == 0), b6.2.1, b6.2.2))
set_option maxHeartbeats 8000000 in
set_option maxRecDepth 100000 in
theorem spec_l1Once.calls (g : Nat) (s0_0 : List Int) (s0_1 : Int) (s0_2 : Int) (a1 : Int) (r1 : Bool) (r2 : Int) (r3 : Int) (w0 w : World) (hI : IsS141 w0 w g s0_0 s0_1 s0_2) (hB : Below w0.heap.size w0 w) (h : spec_l1Once.f s0_0 s0_1 s0_2 a1 = some (r1, r2, r3)) :
  Calls Try.prog 99 #[.pointer (some ⟨g, 0, none⟩), .int .i64 a1] w fun e w' => e = .returned (.bool r1) ∧ IsS141 w0 w' g s0_0 r2 r3 ∧ Below w0.heap.size w0 w' ∧ KeepBut w w' g none := by
 have a4 := mk_ hI; have HK := mk_ (KeepBut.refl w g none); have HL := mk_ hB.size; clear hI; have HW0 := mk_ hB.size; have HB := mk_ hB; clear hB
 have H : ((spec_l1Below.f s0_0 s0_1 s0_2 a1).bind fun b6 => (some ((b6.1 == 0), b6.2.1, b6.2.2))) = some (r1, r2, r3) := h
 clear h; replace H := Option.bind_eq_some_iff.mp H; obtain ⟨⟨j2, j3, j4⟩, n8, H⟩ := H
 replace H : (some ((j2 == 0), j3, j4)) = some (r1, r2, r3) := H
 have A3 := mk_ n8; clear n8
 simp only [Option.some.injEq, Prod.mk.injEq] at H
 obtain ⟨rfl, rfl, rfl⟩ := H
 go_enter Try.func99, Try.ntmps99
 go_wp2_with (first | ((with_reducible refine gc_ 96 rfl ?_); refine gl_ (some 7) rfl Try.func96 #[.pointer (some ⟨g, 0, none⟩), .int .i64 a1] ?_; (with_reducible refine (spec_l1Below.calls g s0_0 s0_1 s0_2 a1 j2 j3 j4 w0 _ ?a6 ?a7 A3.out).mono ?_); (case a6 => repeat (first | (with_reducible first | exact a4.out | apply IsS141.alloc | apply IsS141.drewN | apply IsS141.drew | apply IsS141.set_1 | apply IsS141.set_2) | exact a4.out)); (case a7 => exact HB.out); rintro e w4 ⟨rfl, hi, hb, hk⟩; refine ⟨_, rfl, ?_⟩; replace HK := mk_ (KeepBut.trans (by repeat (first | (with_reducible first | exact HK.out | apply KeepBut.set_ | apply keep_drewN | apply keep_drew | apply keep_alloc) | exact HK.out)) hk (.inl rfl)); replace HB := mk_ (hb); replace a4 := mk_ (hi); (try clear hb); (try clear hb2); (try clear hk); (try clear hi)))
 go_ret
 exact ⟨re_, by repeat (first | (with_reducible first | exact a4.out | apply IsS141.alloc | apply IsS141.drewN | apply IsS141.drew | apply IsS141.set_1 | apply IsS141.set_2) | exact a4.out), by repeat (first | (with_reducible first | exact HB.out | apply below_alloc | apply pw_below_drewN | apply below_drew1 | refine below_set ?_ (IsS141.ge a4.out)) | exact HB.out), by repeat (first | (with_reducible first | exact HK.out | apply KeepBut.set_ | apply keep_drewN | apply keep_drew | apply keep_alloc) | exact HK.out)⟩

/-! ### spec_l4Odd: function 107 -/
def spec_l4Odd.f (a0 : Int) (a1 : Fl) : Option (Fl) := if a0 = 0 then (some (fneg .f32 a1)) else (if a0 = 1 then (some (fop .quo .f32 (cn .f32 1065353216) a1)) else (if a0 = 2 then (some (fop .quo .f32 (cn .f32 3212836864) a1)) else (some (fop .quo .f32 a1 a1))))
set_option maxHeartbeats 8000000 in
set_option maxRecDepth 100000 in
theorem spec_l4Odd.calls (a0 : Int) (b_a1 : Nat) (a1 : Fl) (r : Fl) (w : World) (hF_a1 : cn .f32 b_a1 = a1) (h : spec_l4Odd.f a0 a1 = some r) :
  Calls Try.prog 107 #[.int .i64 a0, .float .f32 b_a1] w fun e w' => ∃ b_r : Nat, e = .returned (.float .f32 b_r) ∧ cn .f32 b_r = r ∧ Drawn0 w w' := by
 have H : (if a0 = 0 then (some (fneg .f32 a1)) else (if a0 = 1 then (some (fop .quo .f32 (cn .f32 1065353216) a1)) else (if a0 = 2 then (some (fop .quo .f32 (cn .f32 3212836864) a1)) else (some (fop .quo .f32 a1 a1))))) = some r := h
 clear h; by_cases c3 : a0 = 0
 ·rw [if_pos c3] at H; have b7 : (a0 == 0) = true := beq_iff_eq.mpr c3; have m2 : (a0 != 0) = false := bne_eq_false_iff_eq.mpr c3; clear c3
  obtain ⟨ft124, hft124⟩ : ∃ y_ : Fl, y_ = (fneg .f32 a1) := ⟨_, rfl⟩
  replace H : (some ft124) = some r := by first | (rw [hft124]; with_reducible exact H) | (have H2_ := (Option.bind_some _ _).symm.trans H; rw [hft124]; with_reducible exact H2_) | (have H2_ := (Option.bind_some _ _).symm.trans H; with_reducible exact H2_) | with_reducible exact H | (rw [hft124]; exact H) | exact H
  have Nft124 := mk_ hft124; clear hft124; obtain rfl := Option.some.inj H
  go_enter Try.func107, Try.ntmps107
  go_wp2_with (first | ((with_reducible refine gd_ 9 rfl ?_); refine fneg_event rfl (N := 9) rfl rfl .f32 b_a1 a1 rfl hF_a1 ?_; intro b_ft124 nf_ hF_; replace hF_ := hF_.trans Nft124.out.symm; have hF_ft124 := hF_; clear hF_))
  go_ret
  exact ⟨b_ft124, by first | rfl | (simp; done) | (simp [*]; done), hF_ft124, by repeat (first | exact Drawn0.refl _ | apply Drawn0.step)⟩
 ·rw [if_neg c3] at H; have b7 : (a0 == 0) = false := beq_eq_false_iff_ne.mpr c3; have m2 : (a0 != 0) = true := bne_iff_ne.mpr c3; by_cases c4 : a0 = 1
  ·rw [if_pos c4] at H; have c1 : (a0 == 1) = true := beq_iff_eq.mpr c4; have m3 : (a0 != 1) = false := bne_eq_false_iff_eq.mpr c4; clear c4
   obtain ⟨ft125, hft125⟩ : ∃ y_ : Fl, y_ = (fop .quo .f32 (cn .f32 1065353216) a1) := ⟨_, rfl⟩
   replace H : (some ft125) = some r := by first | (rw [hft125]; with_reducible exact H) | (have H2_ := (Option.bind_some _ _).symm.trans H; rw [hft125]; with_reducible exact H2_) | (have H2_ := (Option.bind_some _ _).symm.trans H; with_reducible exact H2_) | with_reducible exact H | (rw [hft125]; exact H) | exact H
   have Nft125 := mk_ hft125; clear hft125; obtain rfl := Option.some.inj H
   go_enter Try.func107, Try.ntmps107
   go_wp2_with (first | ((with_reducible refine gd_ 13 rfl ?_); refine fop_event rfl (N := 13) rfl (op := .quo) (by simp) rfl .f32 1065353216 b_a1 (cn .f32 1065353216) a1 rfl rfl rfl hF_a1 ?_; intro b_ft125 nf_ hF_; replace hF_ := hF_.trans Nft125.out.symm; have hF_ft125 := hF_; clear hF_))
   go_ret
   exact ⟨b_ft125, by first | rfl | (simp; done) | (simp [*]; done), hF_ft125, by repeat (first | exact Drawn0.refl _ | apply Drawn0.step)⟩
  ·rw [if_neg c4] at H; have c1 : (a0 == 1) = false := beq_eq_false_iff_ne.mpr c4; have m3 : (a0 != 1) = true := bne_iff_ne.mpr c4; by_cases c5 : a0 = 2
   ·rw [if_pos c5] at H; have m4 : (a0 == 2) = true := beq_iff_eq.mpr c5; have m5 : (a0 != 2) = false := bne_eq_false_iff_eq.mpr c5; clear c5
    obtain ⟨ft126, hft126⟩ : ∃ y_ : Fl, y_ = (fop .quo .f32 (cn .f32 3212836864) a1) := ⟨_, rfl⟩
    replace H : (some ft126) = some r := by first | (rw [hft126]; with_reducible exact H) | (have H2_ := (Option.bind_some _ _).symm.trans H; rw [hft126]; with_reducible exact H2_) | (have H2_ := (Option.bind_some _ _).symm.trans H; with_reducible exact H2_) | with_reducible exact H | (rw [hft126]; exact H) | exact H
    have Nft126 := mk_ hft126; clear hft126; obtain rfl := Option.some.inj H
    go_enter Try.func107, Try.ntmps107
    go_wp2_with (first | ((with_reducible refine gd_ 17 rfl ?_); refine fop_event rfl (N := 17) rfl (op := .quo) (by simp) rfl .f32 3212836864 b_a1 (cn .f32 3212836864) a1 rfl rfl rfl hF_a1 ?_; intro b_ft126 nf_ hF_; replace hF_ := hF_.trans Nft126.out.symm; have hF_ft126 := hF_; clear hF_))
    go_ret
    exact ⟨b_ft126, by first | rfl | (simp; done) | (simp [*]; done), hF_ft126, by repeat (first | exact Drawn0.refl _ | apply Drawn0.step)⟩
   ·rw [if_neg c5] at H; have m4 : (a0 == 2) = false := beq_eq_false_iff_ne.mpr c5; have m5 : (a0 != 2) = true := bne_iff_ne.mpr c5
    obtain ⟨ft127, hft127⟩ : ∃ y_ : Fl, y_ = (fop .quo .f32 a1 a1) := ⟨_, rfl⟩
    replace H : (some ft127) = some r := by first | (rw [hft127]; with_reducible exact H) | (have H2_ := (Option.bind_some _ _).symm.trans H; rw [hft127]; with_reducible exact H2_) | (have H2_ := (Option.bind_some _ _).symm.trans H; with_reducible exact H2_) | with_reducible exact H | (rw [hft127]; exact H) | exact H
    have Nft127 := mk_ hft127; clear hft127; obtain rfl := Option.some.inj H
    go_enter Try.func107, Try.ntmps107
    go_wp2_with (first | ((with_reducible refine gd_ 20 rfl ?_); refine fop_event rfl (N := 20) rfl (op := .quo) (by simp) rfl .f32 b_a1 b_a1 a1 a1 rfl rfl hF_a1 hF_a1 ?_; intro b_ft127 nf_ hF_; replace hF_ := hF_.trans Nft127.out.symm; have hF_ft127 := hF_; clear hF_))
    go_ret
    exact ⟨b_ft127, by first | rfl | (simp; done) | (simp [*]; done), hF_ft127, by repeat (first | exact Drawn0.refl _ | apply Drawn0.step)⟩

end Go.Proofs.Ytkginilghcepbaa.QFnFlown
-- squeezed
