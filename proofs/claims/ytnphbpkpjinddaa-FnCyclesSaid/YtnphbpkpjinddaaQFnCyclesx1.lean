/- Lean functions that tell what the Go functions used by one law answer, and for each a proof that the Go code comes to just these answers; no condition. Printed by this session's own program over the kit's printer. -/
import Derived.Test.YtnphbpkpjinddaaWSq
import Derived.Test.YtnphbpkpjinddaaQFnCyclesx0
namespace Go.Proofs.Ytnphbpkpjinddaa.QFnCycles
open Go.RowKit Go.Proofs.YtnphbpkpjinddaaW.PrintWords Go.Proofs.YtnphbpkpjinddaaW.PrintLast Go.Proofs.YtnphbpkpjinddaaW.PrintMore
attribute [local go_sem] max2_int min2_int max_two min_two max_three min_three max_four min_four   -- for this text's walks alone
attribute [local go_sem high] go_eql go_neq go_lss go_leq go_gtr go_geq go_store   -- for this text's walks alone
set_option linter.unusedVariables false
set_option linter.unusedSimpArgs false

/-! ### laws_big: function 30 -/
def laws_big.f (l0 : List Int) : Option (Bool) := some (decide ((l0.length : Int) > 1048576))
set_option maxHeartbeats 8000000 in
set_option maxRecDepth 100000 in
theorem laws_big.calls (A0 : Option Addr) (c0 : Nat) (l0 : List Int) (r : Bool) (w : World) (hr0 : Kd.C (Kd.int .u8) w A0 l0.length l0) (hc0 : l0.length ≤ c0) (h : laws_big.f l0 = some r) :
  Calls Try.prog 30 #[.slice A0 l0.length c0] w fun e w' => e = .returned (.bool r) ∧ Drawn0 w w' := by
 have o0 := mk_ hr0; have s4 := mk_ hc0; clear hr0 hc0
 have H : (some (decide ((l0.length : Int) > 1048576))) = some r := h
 clear h; obtain rfl := Option.some.inj H
 go_enter Try.func30, Try.ntmps30
 go_wp2; go_ret
 exact ⟨by first | rfl | (simp; done) | (simp [*]; done), by repeat (first | exact Drawn0.refl _ | apply Drawn0.step)⟩

/-! ### laws_at: function 36 -/
def laws_at.f (l0 : List Int) (a1 : Int) : Option (Int) := if a1 < (l0.length : Int) then (if 0 ≤ a1 then (some (wrap64 (rd l0 a1))) else (none)) else (some (Int.tmod (wrap64 ((wrap64 (a1 * 7)) + (l0.length : Int))) 256))
set_option maxHeartbeats 8000000 in
set_option maxRecDepth 100000 in
theorem laws_at.calls (A0 : Option Addr) (c0 : Nat) (l0 : List Int) (a1 : Int) (r : Int) (w : World) (hr0 : Kd.C (Kd.int .u8) w A0 l0.length l0) (hc0 : l0.length ≤ c0) (h : laws_at.f l0 a1 = some r) :
  Calls Try.prog 36 #[.slice A0 l0.length c0, .int .i64 a1] w fun e w' => e = .returned (.int .i64 r) ∧ Drawn0 w w' := by
 have o0 := mk_ hr0; have s4 := mk_ hc0; clear hr0 hc0
 have H : (if a1 < (l0.length : Int) then (if 0 ≤ a1 then (some (wrap64 (rd l0 a1))) else (none)) else (some (Int.tmod (wrap64 ((wrap64 (a1 * 7)) + (l0.length : Int))) 256))) = some r := h
 clear h; by_cases c3 : a1 < (l0.length : Int)
 ·rw [if_pos c3] at H; have h4 : decide (a1 < (l0.length : Int)) = true := decide_eq_true c3; clear c3; by_cases c4 : 0 ≤ a1
  ·rw [if_pos c4] at H; have l6 : decide (0 ≤ a1) = true := decide_eq_true c4; clear c4; obtain rfl := Option.some.inj H
   have p0 : 0 ≤ (a1 : Int) := od_
   have p1 : a1 < (l0.length : Int) := od_
   obtain ⟨F9, D7, D1⟩ := Kd.at_int o0.out a1 p0 p1; cases D7; replace p0 := eq_true p0; replace p1 := eq_true p1
   go_enter Try.func36, Try.ntmps36
   go_wp2; go_ret
   exact ⟨by first | rfl | (simp; done) | (simp [*]; done), by repeat (first | exact Drawn0.refl _ | apply Drawn0.step)⟩
  ·rw [if_neg c4] at H
   exact absurd H (by simp)
 ·rw [if_neg c3] at H; have h4 : decide (a1 < (l0.length : Int)) = false := decide_eq_false c3; clear c3; obtain rfl := Option.some.inj H
  go_enter Try.func36, Try.ntmps36
  go_wp2; go_ret
  exact ⟨by first | rfl | (simp; done) | (simp [*]; done), by repeat (first | exact Drawn0.refl _ | apply Drawn0.step)⟩

/-- A state of type 152 at block g of W; what its slices lead to came in by w0. -/
def IsS152 (w0 W : World) (g : Nat) (f0 : List Int) (f1 : Int) (f2 : Int) : Prop := ∃ A0 c0, W.heap[g]? = some (.cells #[.slice A0 f0.length c0, .int .i64 f1, .int .i64 f2] 152 (0, 0)) ∧ w0.heap.size ≤ g ∧ Kd.C (Kd.int .u8) w0 A0 f0.length f0
theorem IsS152.grown {w0 W : World} {g : Nat} {f0 : List Int} {f1 : Int} {f2 : Int} {W1 : World} {row : Option Nat} (h : IsS152 w0 W g f0 f1 f2) (hw : W.grownBy W1 row) (hne : some g ≠ row) : IsS152 w0 W1 g f0 f1 f2 := by
 obtain ⟨A0, c0, hb, hg, hr0⟩ := h
 exact ⟨A0, c0, blk_grown hb hw hne, hg, hr0⟩
theorem IsS152.own_neN {w0 W : World} {g : Nat} {f0 : List Int} {f1 : Int} {f2 : Int} {α : Type} {d : Kd α} {e : Nat} {base : Nat} {ok : Nat → Prop} {v : Value} {xs : List α} (h : IsS152 w0 W g f0 f1 f2) (ho : Kd.N d e W base ok v xs) (ht : e ≠ 152) : some g ≠ v.ownBlock := by
 obtain ⟨A0, c0, hb, hg, hr0⟩ := h
 exact Kd.N_ne ho hb ht
theorem IsS152.fresh {w0 W : World} {g : Nat} {f0 : List Int} {f1 : Int} {f2 : Int} (h : IsS152 w0 W g f0 f1 f2) : ∀ k, W.heap.size ≤ k → k ≠ g := by
 obtain ⟨A0, c0, hb, hg, hr0⟩ := h
 exact Kd.freshB hb
theorem IsS152.kept {w0 W : World} {g : Nat} {f0 : List Int} {f1 : Int} {f2 : Int} {W1 : World} {S : Nat → Prop} (h : IsS152 w0 W g f0 f1 f2) (hk : Kept W W1 S) (hne : ¬ S g) : IsS152 w0 W1 g f0 f1 f2 := by
 obtain ⟨A0, c0, hb, hg, hr0⟩ := h
 exact ⟨A0, c0, blk_kept hb hk hne, hg, hr0⟩
theorem IsS152.below {w0 W : World} {g : Nat} {f0 : List Int} {f1 : Int} {f2 : Int} {W1 : World} (h : IsS152 w0 W g f0 f1 f2) (hw : Below W.heap.size W W1) : IsS152 w0 W1 g f0 f1 f2 := h.grown (grown_of_below hw none) (by simp)
theorem IsS152.alloc {w0 W : World} {g : Nat} {f0 : List Int} {f1 : Int} {f2 : Int} (h : IsS152 w0 W g f0 f1 f2) (o : Obj) : IsS152 w0 (W.alloc o) g f0 f1 f2 := h.below (below_alloc (Below.refl _ _) o)
theorem IsS152.drewN {w0 W : World} {g : Nat} {f0 : List Int} {f1 : Int} {f2 : Int} (h : IsS152 w0 W g f0 f1 f2) (m : Nat) : IsS152 w0 (W.drewN m) g f0 f1 f2 := h
theorem IsS152.drew {w0 W : World} {g : Nat} {f0 : List Int} {f1 : Int} {f2 : Int} (h : IsS152 w0 W g f0 f1 f2) : IsS152 w0 W.drew g f0 f1 f2 := h
theorem IsS152.at_ {w0 W : World} {g : Nat} {f0 : List Int} {f1 : Int} {f2 : Int} {w' : World} {m : Nat} (hq : W.drewN m = w') (h : IsS152 w0 W g f0 f1 f2) : IsS152 w0 w' g f0 f1 f2 := by subst hq; exact IsS152.drewN h m
theorem IsS152.apart {w0 W : World} {g : Nat} {f0 : List Int} {f1 : Int} {f2 : Int} {α : Type} {d : Kd α} {e : Nat} {base : Nat} {ok : Nat → Prop} {v : Value} {xs : List α} (h : IsS152 w0 W g f0 f1 f2) (ho : d.R e W base ok v xs) (ht : ∀ q, q ∈ e :: d.E → q ≠ 152) : d.R e W base (fun k => ok k ∧ k ≠ g) v xs := by
 obtain ⟨A0, c0, hb, hg, hr0⟩ := h
 exact Kd.R_types ho hb ht
theorem IsS152.own_ne {w0 W : World} {g : Nat} {f0 : List Int} {f1 : Int} {f2 : Int} {α : Type} {d : Kd α} {e : Nat} {base : Nat} {ok : Nat → Prop} {v : Value} {xs : List α} (h : IsS152 w0 W g f0 f1 f2) (ho : d.R e W base ok v xs) (ht : e ≠ 152) : some g ≠ v.ownBlock := by
 obtain ⟨A0, c0, hb, hg, hr0⟩ := h
 exact Kd.R_ne ho hb ht
theorem IsS152.apartQ {w0 W : World} {g : Nat} {f0 : List Int} {f1 : Int} {f2 : Int} {α : Type} {d : Kd α} {e : Nat} {base : Nat} {ok : Nat → Prop} {v : Value} {xs : List α} (h : IsS152 w0 W g f0 f1 f2) (ho : d.Q e W base ok v xs) (ht : ∀ q, q ∈ e :: d.E → q ≠ 152) : d.Q e W base (fun k => ok k ∧ k ≠ g) v xs := by
 obtain ⟨A0, c0, hb, hg, hr0⟩ := h
 exact Kd.Q_types ho hb ht
theorem IsS152.own_neQ {w0 W : World} {g : Nat} {f0 : List Int} {f1 : Int} {f2 : Int} {α : Type} {d : Kd α} {e : Nat} {base : Nat} {ok : Nat → Prop} {v : Value} {xs : List α} (h : IsS152 w0 W g f0 f1 f2) (ho : d.Q e W base ok v xs) (ht : e ≠ 152) : some g ≠ v.ownBlock := by
 obtain ⟨A0, c0, hb, hg, hr0⟩ := h
 exact Kd.Q_ne ho hb ht
theorem IsS152.apartS {w0 W : World} {g : Nat} {f0 : List Int} {f1 : Int} {f2 : Int} {α : Type} {d : Kd α} {e : Nat} {base : Nat} {ok : Nat → Prop} {v : Value} {xs : List α} (h : IsS152 w0 W g f0 f1 f2) (ho : d.S e W base ok v xs) (ht : ∀ q, q ∈ e :: d.E → q ≠ 152) : d.S e W base (fun k => ok k ∧ k ≠ g) v xs := by
 obtain ⟨A0, c0, hb, hg, hr0⟩ := h
 exact Kd.S_types ho hb ht
theorem IsS152.own_neS {w0 W : World} {g : Nat} {f0 : List Int} {f1 : Int} {f2 : Int} {α : Type} {d : Kd α} {e : Nat} {base : Nat} {ok : Nat → Prop} {v : Value} {xs : List α} (h : IsS152 w0 W g f0 f1 f2) (ho : d.S e W base ok v xs) (ht : e ≠ 152) : some g ≠ v.ownBlock := by
 obtain ⟨A0, c0, hb, hg, hr0⟩ := h
 exact Kd.S_ne ho hb ht
theorem IsS152.lt {w0 W : World} {g : Nat} {f0 : List Int} {f1 : Int} {f2 : Int} (h : IsS152 w0 W g f0 f1 f2) : g < W.heap.size := by
 obtain ⟨A0, c0, hb, hg, hr0⟩ := h
 exact blk_lt hb
theorem IsS152.ge {w0 W : World} {g : Nat} {f0 : List Int} {f1 : Int} {f2 : Int} (h : IsS152 w0 W g f0 f1 f2) : w0.heap.size ≤ g := by
 obtain ⟨A0, c0, hb, hg, hr0⟩ := h
 exact hg
theorem IsS152.ne_blk {w0 W : World} {g : Nat} {f0 : List Int} {f1 : Int} {f2 : Int} {a : Nat} {cs : Array Value} {t : TypeId} {fr : Nat × Nat} (h : IsS152 w0 W g f0 f1 f2) (hb2 : W.heap[a]? = some (.cells cs t fr)) (ht : t ≠ 152) : g ≠ a := by
 obtain ⟨A0, c0, hb, hg, hr0⟩ := h
 rintro rfl
 rw [hb] at hb2
 injection hb2 with hb2
 injection hb2 with _ ht2
 exact ht ht2.symm
theorem IsS152.far {w0 W : World} {g : Nat} {f0 : List Int} {f1 : Int} {f2 : Int} {p : Addr} (h : IsS152 w0 W g f0 f1 f2) (hne : g ≠ p.block) (u : Value) : IsS152 w0 (W.setCell p u) g f0 f1 f2 := by
 obtain ⟨A0, c0, hb, hg, hr0⟩ := h
 exact ⟨A0, c0, blk_far hb hne u, hg, hr0⟩
theorem cellS152_0 {W : World} {g : Nat} {A0 : Option Addr} {c0 : Nat} {f0 : List Int} {f1 : Int} {f2 : Int} (h : W.heap[g]? = some (.cells #[.slice A0 f0.length c0, .int .i64 f1, .int .i64 f2] 152 (0, 0))) : W.cell? ⟨g, 0, none⟩ = some (.slice A0 f0.length c0) := (blk_cell h 0).trans rfl
theorem cellS152_1 {W : World} {g : Nat} {A0 : Option Addr} {c0 : Nat} {f0 : List Int} {f1 : Int} {f2 : Int} (h : W.heap[g]? = some (.cells #[.slice A0 f0.length c0, .int .i64 f1, .int .i64 f2] 152 (0, 0))) : W.cell? ⟨g, 1, none⟩ = some (.int .i64 f1) := (blk_cell h 1).trans rfl
theorem IsS152.set_1 {w0 W : World} {g : Nat} {f0 : List Int} {f1 : Int} {f2 : Int} (h : IsS152 w0 W g f0 f1 f2) (x : Int) : IsS152 w0 (W.setCell ⟨g, 1, none⟩ (.int .i64 x)) g f0 x f2 := by
 obtain ⟨A0, c0, hb, hg, hr0⟩ := h
 exact ⟨A0, c0, by simpa using blk_set hb 1 (.int .i64 x), hg, hr0⟩
theorem cellS152_2 {W : World} {g : Nat} {A0 : Option Addr} {c0 : Nat} {f0 : List Int} {f1 : Int} {f2 : Int} (h : W.heap[g]? = some (.cells #[.slice A0 f0.length c0, .int .i64 f1, .int .i64 f2] 152 (0, 0))) : W.cell? ⟨g, 2, none⟩ = some (.int .i64 f2) := (blk_cell h 2).trans rfl
theorem IsS152.set_2 {w0 W : World} {g : Nat} {f0 : List Int} {f1 : Int} {f2 : Int} (h : IsS152 w0 W g f0 f1 f2) (x : Int) : IsS152 w0 (W.setCell ⟨g, 2, none⟩ (.int .i64 x)) g f0 f1 x := by
 obtain ⟨A0, c0, hb, hg, hr0⟩ := h
 exact ⟨A0, c0, by simpa using blk_set hb 2 (.int .i64 x), hg, hr0⟩
theorem IsS152.new (w0 W : World) (A0 : Option Addr) (c0 : Nat) (f0 : List Int) (f1 : Int) (f2 : Int) (hB : Below w0.heap.size w0 W) (hr0 : Kd.C (Kd.int .u8) w0 A0 f0.length f0) : IsS152 w0 (W.alloc (.cells #[.slice A0 f0.length c0, .int .i64 f1, .int .i64 f2] 152)) W.heap.size f0 f1 f2 := ⟨A0, c0, by simpa using heap_alloc_new W _, hB.size, hr0⟩

/-! ### spec_l1New: function 80 -/
def spec_l1New.l0 : Nat → List Int → Int → Int → Option (List Int × Int × Int)
 | 0, _, _, _ => none
 | k + 1, x0, x3, x4 => if x4 < (x0.length : Int) then (if x4 < 4000 then (if 0 ≤ x4 then (spec_l1New.l0 k x0 (Go.bits .and .i64 (wrap64 ((wrap64 ((wrap64 (x3 * 131)) + (wrap64 (rd x0 x4)))) + 7)) 1073741823) (wrap64 (x4 + 1))) else (none)) else (some (x0, 0, x3))) else (some (x0, 0, x3))
def spec_l1New.f (k : Nat) (l0 : List Int) : Option (List Int × Int × Int) := spec_l1New.l0 k l0 (wrap64 (63063 + (l0.length : Int))) 0
theorem spec_l1New.mono_l : ∀ k, (∀ y0 y1 y2, LeO (spec_l1New.l0 k y0 y1 y2) (spec_l1New.l0 (k + 1) y0 y1 y2))
 | 0 => fun _ _ _ r h => by simp [spec_l1New.l0] at h
 | k + 1 => by
  have l7 := spec_l1New.mono_l k
  ·intro y0 y1 y2
   unfold spec_l1New.l0
   repeat' first
   | (with_reducible exact l7 _ _ _)
   | (with_reducible exact LeO.refl _)
   | (with_reducible exact LeO.none _)
   | (with_reducible refine LeO.ite ?_ ?_)
   | (with_reducible refine LeO.bind ?_ (fun _ => ?_))
   | exact l7 _ _ _
   | exact LeO.none _
   | refine LeO.ite ?_ ?_
   | refine LeO.bind ?_ (fun _ => ?_)
theorem spec_l1New.mono : ∀ a0 k, LeO (spec_l1New.f k a0) (spec_l1New.f (k + 1) a0) := by
 intro a0 k
 have l7 := spec_l1New.mono_l k
 unfold spec_l1New.f
 repeat' first
   | (with_reducible exact l7 _ _ _)
   | (with_reducible exact LeO.refl _)
   | (with_reducible exact LeO.none _)
   | (with_reducible refine LeO.ite ?_ ?_)
   | (with_reducible refine LeO.bind ?_ (fun _ => ?_))
   | exact l7 _ _ _
   | exact LeO.none _
   | refine LeO.ite ?_ ?_
   | refine LeO.bind ?_ (fun _ => ?_)
set_option maxHeartbeats 8000000 in
set_option maxRecDepth 100000 in
theorem spec_l1New.calls (k : Nat) (A0 : Option Addr) (c0 : Nat) (l0 : List Int) (r1 : List Int) (r2 : Int) (r3 : Int) (w0 w : World) (hB : Below w0.heap.size w0 w) (hr0 : Kd.C (Kd.int .u8) w0 A0 l0.length l0) (hc0 : l0.length ≤ c0) (h : spec_l1New.f k l0 = some (r1, r2, r3)) :
  Calls Try.prog 80 #[.slice A0 l0.length c0] w fun e w' => ∃ g_ : Nat, e = .returned (.pointer (some ⟨g_, 0, none⟩)) ∧ IsS152 w0 w' g_ r1 r2 r3 ∧ Below w0.heap.size w0 w' ∧ Below w.heap.size w w' := by
 have G0 := Try.underlying152
 have o0 := mk_ hr0; have s4 := mk_ hc0; clear hr0 hc0; have HBW := mk_ (Below.refl w.heap.size w); have HW0 := mk_ hB.size; have HB := mk_ hB; clear hB
 have H : (spec_l1New.l0 k l0 (wrap64 (63063 + (l0.length : Int))) 0) = some (r1, r2, r3) := h
 clear h
 have H' := mk_ H
 clear H
 go_enter Try.func80, Try.ntmps80
 go_wp2
 go_loopg [3, 4] k (fun kq v3 v4 w' => ∃ (h5 : Int) (d2 : Int), v3 = .int .i64 h5 ∧ v4 = .int .i64 d2 ∧ Aside0 (spec_l1New.l0 kq l0 h5 d2 = some (r1, r2, r3)) ∧ Aside0 (kq ≤ k) ∧ Aside0 (Below w.heap.size w w') ∧ Aside0 (Below w0.heap.size w0 w'))
 case atStart => exact ⟨(wrap64 (63063 + (l0.length : Int))), (0), rf_, rf_, H', ⟨Nat.le_refl _⟩, ⟨hw_ HBW⟩, ⟨hw_ HB⟩⟩
 case round =>
  clear H'
  obtain ⟨h5, d2, rfl, rfl, HA, o4, HBW, HB⟩ := hrel
  cases gk with
  | zero => exact absurd HA.out (by simp [spec_l1New.l0])
  | succ k1 =>
   have H := HA.out; clear HA
   simp only [spec_l1New.l0] at H
   by_cases c2 : d2 < (l0.length : Int)
   ·rw [if_pos c2] at H; have p2 : decide (d2 < (l0.length : Int)) = true := decide_eq_true c2; clear c2; by_cases c3 : d2 < 4000
    ·rw [if_pos c3] at H; have h4 : decide (d2 < 4000) = true := decide_eq_true c3; clear c3; by_cases c4 : 0 ≤ d2
     ·rw [if_pos c4] at H; have l6 : decide (0 ≤ d2) = true := decide_eq_true c4; clear c4
      have H' := mk_ H
      clear H
      have p3 : 0 ≤ (d2 : Int) := od_
      have p4 : d2 < (l0.length : Int) := od_
      obtain ⟨G1, D8, l2⟩ := Kd.at_int o0.out d2 p3 p4; cases D8
      replace l2 := pw_cell_below HB.out l2
      replace p3 := eq_true p3; replace p4 := eq_true p4; go_wp2; go_roundg k1
      case measure => have := o4.out; omega
      case rel => exact ⟨(Go.bits .and .i64 (wrap64 ((wrap64 ((wrap64 (h5 * 131)) + (wrap64 (rd l0 d2)))) + 7)) 1073741823), (wrap64 (d2 + 1)), rf_, rf_, H', ⟨by have := o4.out; omega⟩, ⟨hw_ HBW⟩, ⟨hw_ HB⟩⟩
     ·rw [if_neg c4] at H
      exact absurd H (by simp)
    ·rw [if_neg c3] at H; have h4 : decide (d2 < 4000) = false := decide_eq_false c3; clear c3
     simp only [Option.some.injEq, Prod.mk.injEq] at H
     obtain ⟨rfl, rfl, rfl⟩ := H
     go_wp2_with (first | ((with_reducible refine gd_ 31 rfl ?_); refine box_event ?hg (N := 31) ?hd (cs := #[.slice A0 l0.length c0, .int .i64 0, .int .i64 h5]) (t := 152) ?hr ?_; (case hd => rfl); (case hg => rfl); (case hr => exact hr_); intro m4 hg w5 hbox hb; replace HB := bp_ HB hb; have s5 := mk_ (hbox); have G2 := gb_ hg HBW; have s6 := mk_ ((Nat.le_trans HW0.out (by rw [hg]; exact (below_size (by exact HBW.out)) : w.heap.size ≤ m4) : w0.heap.size ≤ m4)); replace HBW := mk_ (below_step HBW.out hb); clear hb hbox hg))
     go_ret
     exact ⟨_, rfl, (show IsS152 w0 _ m4 l0 0 h5 from ⟨_, _, by (with_reducible repeat (first | refine blk_drewN ?_ _ | refine blk_drew ?_ | refine blk_alloc ?_ _)); exact s5.out, s6.out, o0.out⟩), hw_ HB, hw_ HBW⟩
   ·rw [if_neg c2] at H; have p2 : decide (d2 < (l0.length : Int)) = false := decide_eq_false c2; clear c2
    simp only [Option.some.injEq, Prod.mk.injEq] at H
    obtain ⟨rfl, rfl, rfl⟩ := H
    go_wp2_with (first | ((with_reducible refine gd_ 31 rfl ?_); refine box_event ?hg (N := 31) ?hd (cs := #[.slice A0 l0.length c0, .int .i64 0, .int .i64 h5]) (t := 152) ?hr ?_; (case hd => rfl); (case hg => rfl); (case hr => exact hr_); intro m5 hg w6 hbox hb; replace HB := bp_ HB hb; have s7 := mk_ (hbox); have G3 := gb_ hg HBW; have s8 := mk_ ((Nat.le_trans HW0.out (by rw [hg]; exact (below_size (by exact HBW.out)) : w.heap.size ≤ m5) : w0.heap.size ≤ m5)); replace HBW := mk_ (below_step HBW.out hb); clear hb hbox hg))
    go_ret
    exact ⟨_, rfl, (show IsS152 w0 _ m5 l0 0 h5 from ⟨_, _, by (with_reducible repeat (first | refine blk_drewN ?_ _ | refine blk_drew ?_ | refine blk_alloc ?_ _)); exact s7.out, s8.out, o0.out⟩), hw_ HB, hw_ HBW⟩

/-! ### spec_l1Byte: function 122 -/
def spec_l1Byte.f (s0_0 : List Int) (s0_1 : Int) (s0_2 : Int) : Option (Int × Int × Int) := if s0_1 < (s0_0.length : Int) then (if 0 ≤ s0_1 then (some (Go.bits .and .i64 (wrap64 ((Go.bits .and .i64 (Go.bits .xor .i64 ((wrap64 ((wrap64 (s0_2 * 6364136223846793005)) + 1442695040888963407)) / 8589934592) ((wrap64 ((wrap64 (s0_2 * 6364136223846793005)) + 1442695040888963407)) / 35184372088832)) 255) + (wrap64 (rd s0_0 s0_1)))) 255, wrap64 (s0_1 + 1), wrap64 ((wrap64 (s0_2 * 6364136223846793005)) + 1442695040888963407))) else (none)) else (some (Go.bits .and .i64 (Go.bits .xor .i64 ((wrap64 ((wrap64 (s0_2 * 6364136223846793005)) + 1442695040888963407)) / 8589934592) ((wrap64 ((wrap64 (s0_2 * 6364136223846793005)) + 1442695040888963407)) / 35184372088832)) 255, s0_1, wrap64 ((wrap64 (s0_2 * 6364136223846793005)) + 1442695040888963407)))
set_option maxHeartbeats 8000000 in
set_option maxRecDepth 100000 in
theorem spec_l1Byte.calls (g : Nat) (s0_0 : List Int) (s0_1 : Int) (s0_2 : Int) (r1 : Int) (r2 : Int) (r3 : Int) (w0 w : World) (hI : IsS152 w0 w g s0_0 s0_1 s0_2) (hB : Below w0.heap.size w0 w) (h : spec_l1Byte.f s0_0 s0_1 s0_2 = some (r1, r2, r3)) :
  Calls Try.prog 122 #[.pointer (some ⟨g, 0, none⟩)] w fun e w' => e = .returned (.int .i64 r1) ∧ IsS152 w0 w' g s0_0 r2 r3 ∧ Below w0.heap.size w0 w' ∧ KeepBut w w' g none := by
 have b5 := mk_ hI; have HK := mk_ (KeepBut.refl w g none); have HL := mk_ hB.size; clear hI; have HW0 := mk_ hB.size; have HB := mk_ hB; clear hB
 have H : (if s0_1 < (s0_0.length : Int) then (if 0 ≤ s0_1 then (some (Go.bits .and .i64 (wrap64 ((Go.bits .and .i64 (Go.bits .xor .i64 ((wrap64 ((wrap64 (s0_2 * 6364136223846793005)) + 1442695040888963407)) / 8589934592) ((wrap64 ((wrap64 (s0_2 * 6364136223846793005)) + 1442695040888963407)) / 35184372088832)) 255) + (wrap64 (rd s0_0 s0_1)))) 255, wrap64 (s0_1 + 1), wrap64 ((wrap64 (s0_2 * 6364136223846793005)) + 1442695040888963407))) else (none)) else (some (Go.bits .and .i64 (Go.bits .xor .i64 ((wrap64 ((wrap64 (s0_2 * 6364136223846793005)) + 1442695040888963407)) / 8589934592) ((wrap64 ((wrap64 (s0_2 * 6364136223846793005)) + 1442695040888963407)) / 35184372088832)) 255, s0_1, wrap64 ((wrap64 (s0_2 * 6364136223846793005)) + 1442695040888963407)))) = some (r1, r2, r3) := h
 clear h; by_cases c2 : s0_1 < (s0_0.length : Int)
 ·rw [if_pos c2] at H; have p2 : decide (s0_1 < (s0_0.length : Int)) = true := decide_eq_true c2; clear c2; by_cases c3 : 0 ≤ s0_1
  ·rw [if_pos c3] at H; have h4 : decide (0 ≤ s0_1) = true := decide_eq_true c3; clear c3
   simp only [Option.some.injEq, Prod.mk.injEq] at H
   obtain ⟨rfl, rfl, rfl⟩ := H
   obtain ⟨ASz4_0, cSz4_0, HGz4, hgz4, HSz4_0⟩ := b5.out
   have D9 := cellS152_0 HGz4
   have E0 := cellS152_1 HGz4
   have E1 := cellS152_2 HGz4
   have E2 := blk_frozen HGz4 1
   have E3 := blk_frozen HGz4 2
   clear HGz4 hgz4
   have p5 : 0 ≤ (s0_1 : Int) := od_
   have p6 : s0_1 < (s0_0.length : Int) := od_
   obtain ⟨s9, E4, d1⟩ := Kd.at_int HSz4_0 s0_1 p5 p6; cases E4
   have hn105_0 : s9.block ≠ g := Nat.ne_of_lt (Nat.lt_of_lt_of_le (by have := World.block_lt_of_cell? _ _ d1; first | rwa [add_block] at this | exact this) (IsS152.ge b5.out))
   replace d1 := pw_cell_below HB.out d1
   replace d1 := (cell_far (p := ⟨g, 2, none⟩) (by first | (rw [add_block]; exact hn105_0) | (show (Addr.add _ _).block ≠ _; rw [add_block]; exact hn105_0) | exact hn105_0) (.int .i64 (wrap64 ((wrap64 (s0_2 * 6364136223846793005)) + 1442695040888963407)))).trans d1
   (try have D2 := fun (n_ : Nat) => (show (((w.drewN n_).setCell ⟨g, 2, none⟩ (.int .i64 (wrap64 ((wrap64 (s0_2 * 6364136223846793005)) + 1442695040888963407))))).cell? _ = some _ from d1))
   clear hn105_0; replace p5 := eq_true p5; replace p6 := eq_true p6
   go_enter Try.func122, Try.ntmps122
   go_wp2
   repeat (go_quiet (fail); try go_wp2)
   go_ret
   exact ⟨re_, by repeat (first | (with_reducible first | exact b5.out | apply IsS152.alloc | apply IsS152.drewN | apply IsS152.drew | apply IsS152.set_1 | apply IsS152.set_2) | exact b5.out), by repeat (first | (with_reducible first | exact HB.out | apply below_alloc | apply pw_below_drewN | apply below_drew1 | refine below_set ?_ (IsS152.ge b5.out)) | exact HB.out), by repeat (first | (with_reducible first | exact HK.out | apply KeepBut.set_ | apply keep_drewN | apply keep_drew | apply keep_alloc) | exact HK.out)⟩
  ·rw [if_neg c3] at H
   exact absurd H (by simp)
 ·rw [if_neg c2] at H; have p2 : decide (s0_1 < (s0_0.length : Int)) = false := decide_eq_false c2; clear c2
  simp only [Option.some.injEq, Prod.mk.injEq] at H
  obtain ⟨rfl, rfl, rfl⟩ := H
  obtain ⟨ASz5_0, cSz5_0, HGz5, hgz5, HSz5_0⟩ := b5.out
  have E5 := cellS152_0 HGz5
  have E6 := cellS152_1 HGz5
  have E7 := cellS152_2 HGz5
  have E8 := blk_frozen HGz5 1
  have E9 := blk_frozen HGz5 2
  clear HGz5 hgz5
  go_enter Try.func122, Try.ntmps122
  go_wp2
  repeat (go_quiet (fail); try go_wp2)
  go_ret
  exact ⟨re_, by repeat (first | (with_reducible first | exact b5.out | apply IsS152.alloc | apply IsS152.drewN | apply IsS152.drew | apply IsS152.set_1 | apply IsS152.set_2) | exact b5.out), by repeat (first | (with_reducible first | exact HB.out | apply below_alloc | apply pw_below_drewN | apply below_drew1 | refine below_set ?_ (IsS152.ge b5.out)) | exact HB.out), by repeat (first | (with_reducible first | exact HK.out | apply KeepBut.set_ | apply keep_drewN | apply keep_drew | apply keep_alloc) | exact HK.out)⟩

/-! ### spec_l1Below: function 82 -/
def spec_l1Below.f (s0_0 : List Int) (s0_1 : Int) (s0_2 : Int) (a1 : Int) : Option (Int × Int × Int) := if a1 ≤ 0 then (some (0, s0_1, s0_2)) else (if a1 ≤ 256 then ((spec_l1Byte.f s0_0 s0_1 s0_2).bind fun g1 => (if a1 = 0 then (none) else (some (Int.tmod g1.1 a1, g1.2.1, g1.2.2)))) else ((spec_l1Byte.f s0_0 s0_1 s0_2).bind fun g2 => ((spec_l1Byte.f s0_0 g2.2.1 g2.2.2).bind fun b8 => ((spec_l1Byte.f s0_0 b8.2.1 b8.2.2).bind fun b6 => ((spec_l1Byte.f s0_0 b6.2.1 b6.2.2).bind fun b1 => (if a1 = 0 then (none) else (some (Int.tmod (wrap64 ((wrap64 ((wrap64 ((wrap64 (g2.1 * 16777216)) + (wrap64 (b8.1 * 65536)))) + (wrap64 (b6.1 * 256)))) + b1.1)) a1, b1.2.1, b1.2.2))))))))
set_option maxHeartbeats 8000000 in
set_option maxRecDepth 100000 in
theorem spec_l1Below.calls (g : Nat) (s0_0 : List Int) (s0_1 : Int) (s0_2 : Int) (a1 : Int) (r1 : Int) (r2 : Int) (r3 : Int) (w0 w : World) (hI : IsS152 w0 w g s0_0 s0_1 s0_2) (hB : Below w0.heap.size w0 w) (h : spec_l1Below.f s0_0 s0_1 s0_2 a1 = some (r1, r2, r3)) :
  Calls Try.prog 82 #[.pointer (some ⟨g, 0, none⟩), .int .i64 a1] w fun e w' => e = .returned (.int .i64 r1) ∧ IsS152 w0 w' g s0_0 r2 r3 ∧ Below w0.heap.size w0 w' ∧ KeepBut w w' g none := by
 have b5 := mk_ hI; have HK := mk_ (KeepBut.refl w g none); have HL := mk_ hB.size; clear hI; have HW0 := mk_ hB.size; have HB := mk_ hB; clear hB
 have H : (if a1 ≤ 0 then (some (0, s0_1, s0_2)) else (if a1 ≤ 256 then ((spec_l1Byte.f s0_0 s0_1 s0_2).bind fun g1 => (if a1 = 0 then (none) else (some (Int.tmod g1.1 a1, g1.2.1, g1.2.2)))) else ((spec_l1Byte.f s0_0 s0_1 s0_2).bind fun g2 => ((spec_l1Byte.f s0_0 g2.2.1 g2.2.2).bind fun b8 => ((spec_l1Byte.f s0_0 b8.2.1 b8.2.2).bind fun b6 => ((spec_l1Byte.f s0_0 b6.2.1 b6.2.2).bind fun b1 => (if a1 = 0 then (none) else (some (Int.tmod (wrap64 ((wrap64 ((wrap64 ((wrap64 (g2.1 * 16777216)) + (wrap64 (b8.1 * 65536)))) + (wrap64 (b6.1 * 256)))) + b1.1)) a1, b1.2.1, b1.2.2))))))))) = some (r1, r2, r3) := h
 clear h; by_cases c3 : a1 ≤ 0
 ·rw [if_pos c3] at H; have h4 : decide (a1 ≤ 0) = true := decide_eq_true c3; clear c3
  simp only [Option.some.injEq, Prod.mk.injEq] at H
  obtain ⟨rfl, rfl, rfl⟩ := H
  go_enter Try.func82, Try.ntmps82
  go_wp2; go_ret
  exact ⟨re_, by repeat (first | (with_reducible first | exact b5.out | apply IsS152.alloc | apply IsS152.drewN | apply IsS152.drew | apply IsS152.set_1 | apply IsS152.set_2) | exact b5.out), by repeat (first | (with_reducible first | exact HB.out | apply below_alloc | apply pw_below_drewN | apply below_drew1 | refine below_set ?_ (IsS152.ge b5.out)) | exact HB.out), by repeat (first | (with_reducible first | exact HK.out | apply KeepBut.set_ | apply keep_drewN | apply keep_drew | apply keep_alloc) | exact HK.out)⟩
 ·rw [if_neg c3] at H; have h4 : decide (a1 ≤ 0) = false := decide_eq_false c3; clear c3; by_cases c4 : a1 ≤ 256
  ·rw [if_pos c4] at H; have l6 : decide (a1 ≤ 256) = true := decide_eq_true c4; clear c4; replace H := Option.bind_eq_some_iff.mp H; obtain ⟨⟨t0, t1, t2⟩, G4, H⟩ := H
   replace H : (if a1 = 0 then (none) else (some (Int.tmod t0 a1, t1, t2))) = some (r1, r2, r3) := H
   have A5 := mk_ G4; clear G4; by_cases c6 : a1 = 0
   ·rw [if_pos c6] at H
    exact absurd H (by simp)
   ·rw [if_neg c6] at H; have H9 : (a1 == 0) = false := beq_eq_false_iff_ne.mpr c6; have I0 : (a1 != 0) = true := bne_iff_ne.mpr c6
    simp only [Option.some.injEq, Prod.mk.injEq] at H
    obtain ⟨rfl, rfl, rfl⟩ := H
    go_enter Try.func82, Try.ntmps82
    go_wp2_with (first | ((with_reducible refine gc_ 122 rfl ?_); refine gl_ (some 14) rfl Try.func122 #[.pointer (some ⟨g, 0, none⟩)] ?_; (with_reducible refine (spec_l1Byte.calls g s0_0 s0_1 s0_2 t0 t1 t2 w0 _ ?a4 ?a5 A5.out).mono ?_); (case a4 => repeat (first | (with_reducible first | exact b5.out | apply IsS152.alloc | apply IsS152.drewN | apply IsS152.drew | apply IsS152.set_1 | apply IsS152.set_2) | exact b5.out)); (case a5 => exact HB.out); rintro e w7 ⟨rfl, hi, hb, hk⟩; refine ⟨_, rfl, ?_⟩; replace HK := mk_ (KeepBut.trans (by repeat (first | (with_reducible first | exact HK.out | apply KeepBut.set_ | apply keep_drewN | apply keep_drew | apply keep_alloc) | exact HK.out)) hk (.inl rfl)); replace HB := mk_ (hb); replace b5 := mk_ (hi); (try clear hb); (try clear hb2); (try clear hk); (try clear hi)))
    go_ret
    exact ⟨re_, by repeat (first | (with_reducible first | exact b5.out | apply IsS152.alloc | apply IsS152.drewN | apply IsS152.drew | apply IsS152.set_1 | apply IsS152.set_2) | exact b5.out), by repeat (first | (with_reducible first | exact HB.out | apply below_alloc | apply pw_below_drewN | apply below_drew1 | refine below_set ?_ (IsS152.ge b5.out)) | exact HB.out), by repeat (first | (with_reducible first | exact HK.out | apply KeepBut.set_ | apply keep_drewN | apply keep_drew | apply keep_alloc) | exact HK.out)⟩
  ·rw [if_neg c4] at H; have l6 : decide (a1 ≤ 256) = false := decide_eq_false c4; clear c4; replace H := Option.bind_eq_some_iff.mp H; obtain ⟨⟨m6, p7, p8⟩, G5, H⟩ := H
   replace H : ((spec_l1Byte.f s0_0 p7 p8).bind fun b8 => ((spec_l1Byte.f s0_0 b8.2.1 b8.2.2).bind fun b6 => ((spec_l1Byte.f s0_0 b6.2.1 b6.2.2).bind fun b1 => (if a1 = 0 then (none) else (some (Int.tmod (wrap64 ((wrap64 ((wrap64 ((wrap64 (m6 * 16777216)) + (wrap64 (b8.1 * 65536)))) + (wrap64 (b6.1 * 256)))) + b1.1)) a1, b1.2.1, b1.2.2)))))) = some (r1, r2, r3) := H
   have A8 := mk_ G5; clear G5; replace H := Option.bind_eq_some_iff.mp H; obtain ⟨⟨o1, p9, q0⟩, G6, H⟩ := H
   replace H : ((spec_l1Byte.f s0_0 p9 q0).bind fun b6 => ((spec_l1Byte.f s0_0 b6.2.1 b6.2.2).bind fun b1 => (if a1 = 0 then (none) else (some (Int.tmod (wrap64 ((wrap64 ((wrap64 ((wrap64 (m6 * 16777216)) + (wrap64 (o1 * 65536)))) + (wrap64 (b6.1 * 256)))) + b1.1)) a1, b1.2.1, b1.2.2))))) = some (r1, r2, r3) := H
   have A9 := mk_ G6; clear G6; replace H := Option.bind_eq_some_iff.mp H; obtain ⟨⟨q1, q2, q3⟩, m7, H⟩ := H
   replace H : ((spec_l1Byte.f s0_0 q2 q3).bind fun b1 => (if a1 = 0 then (none) else (some (Int.tmod (wrap64 ((wrap64 ((wrap64 ((wrap64 (m6 * 16777216)) + (wrap64 (o1 * 65536)))) + (wrap64 (q1 * 256)))) + b1.1)) a1, b1.2.1, b1.2.2)))) = some (r1, r2, r3) := H
   have F0 := mk_ m7; clear m7; replace H := Option.bind_eq_some_iff.mp H; obtain ⟨⟨t3, t4, t5⟩, t6, H⟩ := H
   replace H : (if a1 = 0 then (none) else (some (Int.tmod (wrap64 ((wrap64 ((wrap64 ((wrap64 (m6 * 16777216)) + (wrap64 (o1 * 65536)))) + (wrap64 (q1 * 256)))) + t3)) a1, t4, t5))) = some (r1, r2, r3) := H
   have I1 := mk_ t6; clear t6; by_cases D3 : a1 = 0
   ·rw [if_pos D3] at H
    exact absurd H (by simp)
   ·rw [if_neg D3] at H; have G7 : (a1 == 0) = false := beq_eq_false_iff_ne.mpr D3; have G8 : (a1 != 0) = true := bne_iff_ne.mpr D3
    simp only [Option.some.injEq, Prod.mk.injEq] at H
    obtain ⟨rfl, rfl, rfl⟩ := H
    go_enter Try.func82, Try.ntmps82
    go_wp2_with (first | ((with_reducible refine gc_ 122 rfl ?_); refine gl_ (some 18) rfl Try.func122 #[.pointer (some ⟨g, 0, none⟩)] ?_; (with_reducible refine (spec_l1Byte.calls g s0_0 s0_1 s0_2 m6 p7 p8 w0 _ ?a4 ?a5 A8.out).mono ?_); (case a4 => repeat (first | (with_reducible first | exact b5.out | apply IsS152.alloc | apply IsS152.drewN | apply IsS152.drew | apply IsS152.set_1 | apply IsS152.set_2) | exact b5.out)); (case a5 => exact HB.out); rintro e I2 ⟨rfl, hi, hb, hk⟩; refine ⟨_, rfl, ?_⟩; replace HK := mk_ (KeepBut.trans (by repeat (first | (with_reducible first | exact HK.out | apply KeepBut.set_ | apply keep_drewN | apply keep_drew | apply keep_alloc) | exact HK.out)) hk (.inl rfl)); replace HB := mk_ (hb); replace b5 := mk_ (hi); (try clear hb); (try clear hb2); (try clear hk); (try clear hi)) | ((with_reducible refine gc_ 122 rfl ?_); refine gl_ (some 20) rfl Try.func122 #[.pointer (some ⟨g, 0, none⟩)] ?_; (with_reducible refine (spec_l1Byte.calls g s0_0 p7 p8 o1 p9 q0 w0 _ ?a4 ?a5 A9.out).mono ?_); (case a4 => repeat (first | (with_reducible first | exact b5.out | apply IsS152.alloc | apply IsS152.drewN | apply IsS152.drew | apply IsS152.set_1 | apply IsS152.set_2) | exact b5.out)); (case a5 => exact HB.out); rintro e J0 ⟨rfl, hi, hb, hk⟩; refine ⟨_, rfl, ?_⟩; replace HK := mk_ (KeepBut.trans (by repeat (first | (with_reducible first | exact HK.out | apply KeepBut.set_ | apply keep_drewN | apply keep_drew | apply keep_alloc) | exact HK.out)) hk (.inl rfl)); replace HB := mk_ (hb); replace b5 := mk_ (hi); (try clear hb); (try clear hb2); (try clear hk); (try clear hi)) | ((with_reducible refine gc_ 122 rfl ?_); refine gl_ (some 22) rfl Try.func122 #[.pointer (some ⟨g, 0, none⟩)] ?_; (with_reducible refine (spec_l1Byte.calls g s0_0 p9 q0 q1 q2 q3 w0 _ ?a4 ?a5 F0.out).mono ?_); (case a4 => repeat (first | (with_reducible first | exact b5.out | apply IsS152.alloc | apply IsS152.drewN | apply IsS152.drew | apply IsS152.set_1 | apply IsS152.set_2) | exact b5.out)); (case a5 => exact HB.out); rintro e J1 ⟨rfl, hi, hb, hk⟩; refine ⟨_, rfl, ?_⟩; replace HK := mk_ (KeepBut.trans (by repeat (first | (with_reducible first | exact HK.out | apply KeepBut.set_ | apply keep_drewN | apply keep_drew | apply keep_alloc) | exact HK.out)) hk (.inl rfl)); replace HB := mk_ (hb); replace b5 := mk_ (hi); (try clear hb); (try clear hb2); (try clear hk); (try clear hi)) | ((with_reducible refine gc_ 122 rfl ?_); refine gl_ (some 24) rfl Try.func122 #[.pointer (some ⟨g, 0, none⟩)] ?_; (with_reducible refine (spec_l1Byte.calls g s0_0 q2 q3 t3 t4 t5 w0 _ ?a4 ?a5 I1.out).mono ?_); (case a4 => repeat (first | (with_reducible first | exact b5.out | apply IsS152.alloc | apply IsS152.drewN | apply IsS152.drew | apply IsS152.set_1 | apply IsS152.set_2) | exact b5.out)); (case a5 => exact HB.out); rintro e I3 ⟨rfl, hi, hb, hk⟩; refine ⟨_, rfl, ?_⟩; replace HK := mk_ (KeepBut.trans (by repeat (first | (with_reducible first | exact HK.out | apply KeepBut.set_ | apply keep_drewN | apply keep_drew | apply keep_alloc) | exact HK.out)) hk (.inl rfl)); replace HB := mk_ (hb); replace b5 := mk_ (hi); (try clear hb); (try clear hb2); (try clear hk); (try clear hi)))
    go_ret
    exact ⟨re_, by repeat (first | (with_reducible first | exact b5.out | apply IsS152.alloc | apply IsS152.drewN | apply IsS152.drew | apply IsS152.set_1 | apply IsS152.set_2) | exact b5.out), by repeat (first | (with_reducible first | exact HB.out | apply below_alloc | apply pw_below_drewN | apply below_drew1 | refine below_set ?_ (IsS152.ge b5.out)) | exact HB.out), by repeat (first | (with_reducible first | exact HK.out | apply KeepBut.set_ | apply keep_drewN | apply keep_drew | apply keep_alloc) | exact HK.out)⟩

/-! ### spec_l1Size: function 100 -/
def spec_l1Size.f (l0 : List Int) (a1 : Int) : Option (Int) := if (wrap64 (2 + (wrap64 ((l0.length : Int) / 20)))) > a1 then (some a1) else (some (wrap64 (2 + (wrap64 ((l0.length : Int) / 20)))))
set_option maxHeartbeats 8000000 in
set_option maxRecDepth 100000 in
theorem spec_l1Size.calls (A0 : Option Addr) (c0 : Nat) (l0 : List Int) (a1 : Int) (r : Int) (w : World) (hr0 : Kd.C (Kd.int .u8) w A0 l0.length l0) (hc0 : l0.length ≤ c0) (h : spec_l1Size.f l0 a1 = some r) :
  Calls Try.prog 100 #[.slice A0 l0.length c0, .int .i64 a1] w fun e w' => e = .returned (.int .i64 r) ∧ Drawn0 w w' := by
 have o0 := mk_ hr0; have s4 := mk_ hc0; clear hr0 hc0
 have H : (if (wrap64 (2 + (wrap64 ((l0.length : Int) / 20)))) > a1 then (some a1) else (some (wrap64 (2 + (wrap64 ((l0.length : Int) / 20)))))) = some r := h
 clear h; by_cases c3 : (wrap64 (2 + (wrap64 ((l0.length : Int) / 20)))) > a1
 ·rw [if_pos c3] at H; have h4 : decide (a1 < (wrap64 (2 + (wrap64 ((l0.length : Int) / 20))))) = true := decide_eq_true c3; clear c3; obtain rfl := Option.some.inj H
  go_enter Try.func100, Try.ntmps100
  go_wp2; go_ret
  exact ⟨by first | rfl | (simp; done) | (simp [*]; done), by repeat (first | exact Drawn0.refl _ | apply Drawn0.step)⟩
 ·rw [if_neg c3] at H; have h4 : decide (a1 < (wrap64 (2 + (wrap64 ((l0.length : Int) / 20))))) = false := decide_eq_false c3; clear c3; obtain rfl := Option.some.inj H
  go_enter Try.func100, Try.ntmps100
  go_wp2; go_ret
  exact ⟨by first | rfl | (simp; done) | (simp [*]; done), by repeat (first | exact Drawn0.refl _ | apply Drawn0.step)⟩

/-! ### spec_l1PickInt: function 101 -/
def spec_l1PickInt.f (s0_0 : List Int) (s0_1 : Int) (s0_2 : Int) (l1 : List Int) : Option (Int × Int × Int) := (spec_l1Below.f s0_0 s0_1 s0_2 (l1.length : Int)).bind fun b9 => (if 0 ≤ b9.1 then (if b9.1 < (l1.length : Int) then (some (rd l1 b9.1, b9.2.1, b9.2.2)) else (none)) else (none))
set_option maxHeartbeats 8000000 in
set_option maxRecDepth 100000 in
theorem spec_l1PickInt.calls (g : Nat) (s0_0 : List Int) (s0_1 : Int) (s0_2 : Int) (A1 : Option Addr) (c1 : Nat) (l1 : List Int) (r1 : Int) (r2 : Int) (r3 : Int) (w0 w : World) (hI : IsS152 w0 w g s0_0 s0_1 s0_2) (hB : Below w0.heap.size w0 w) (hr1 : Kd.C (Kd.int .i64) w A1 l1.length l1) (hc1 : l1.length ≤ c1) (hf1 : ∀ ad, A1 = some ad → 0 < l1.length → ad.block ≠ g) (h : spec_l1PickInt.f s0_0 s0_1 s0_2 l1 = some (r1, r2, r3)) :
  Calls Try.prog 101 #[.pointer (some ⟨g, 0, none⟩), .slice A1 l1.length c1] w fun e w' => e = .returned (.int .i64 r1) ∧ IsS152 w0 w' g s0_0 r2 r3 ∧ Below w0.heap.size w0 w' ∧ KeepBut w w' g none := by
 have I4 := mk_ hr1; have J2 := mk_ hc1; clear hr1 hc1; have b5 := mk_ hI; have HK := mk_ (KeepBut.refl w g none); have HL := mk_ hB.size; clear hI; have HW0 := mk_ hB.size; have HB := mk_ hB; clear hB
 have H : ((spec_l1Below.f s0_0 s0_1 s0_2 (l1.length : Int)).bind fun b9 => (if 0 ≤ b9.1 then (if b9.1 < (l1.length : Int) then (some (rd l1 b9.1, b9.2.1, b9.2.2)) else (none)) else (none))) = some (r1, r2, r3) := h
 clear h; replace H := Option.bind_eq_some_iff.mp H; obtain ⟨⟨g3, t7, t8⟩, o5, H⟩ := H
 replace H : (if 0 ≤ g3 then (if g3 < (l1.length : Int) then (some (rd l1 g3, t7, t8)) else (none)) else (none)) = some (r1, r2, r3) := H
 have A3 := mk_ o5; clear o5; by_cases c4 : 0 ≤ g3
 ·rw [if_pos c4] at H; have l6 : decide (0 ≤ g3) = true := decide_eq_true c4; clear c4; by_cases c5 : g3 < (l1.length : Int)
  ·rw [if_pos c5] at H; have I5 : decide (g3 < (l1.length : Int)) = true := decide_eq_true c5; clear c5
   simp only [Option.some.injEq, Prod.mk.injEq] at H
   obtain ⟨rfl, rfl, rfl⟩ := H
   go_enter Try.func101, Try.ntmps101
   go_wp2_with (first | ((with_reducible refine gc_ 82 rfl ?_); refine gl_ (some 9) rfl Try.func82 #[.pointer (some ⟨g, 0, none⟩), .int .i64 (l1.length : Int)] ?_; (with_reducible refine (spec_l1Below.calls g s0_0 s0_1 s0_2 (l1.length : Int) g3 t7 t8 w0 _ ?a4 ?a5 A3.out).mono ?_); (case a4 => repeat (first | (with_reducible first | exact b5.out | apply IsS152.alloc | apply IsS152.drewN | apply IsS152.drew | apply IsS152.set_1 | apply IsS152.set_2) | exact b5.out)); (case a5 => exact HB.out); rintro e w6 ⟨rfl, hi, hb, hk⟩; refine ⟨_, rfl, ?_⟩; replace HK := mk_ (KeepBut.trans (by repeat (first | (with_reducible first | exact HK.out | apply KeepBut.set_ | apply keep_drewN | apply keep_drew | apply keep_alloc) | exact HK.out)) hk (.inl rfl)); replace HB := mk_ (hb); replace b5 := mk_ (hi); (try clear hb); (try clear hb2); (try clear hk); (try clear hi); have q4 : 0 ≤ (g3 : Int) := od_; have q5 : g3 < (l1.length : Int) := od_; obtain ⟨t9, F1, l3⟩ := Kd.at_int I4.out g3 q4 q5; cases F1; replace l3 := keep_cell HK.out l3 (by first | (rw [add_block]; exact hf1 _ rfl (by omega)) | exact hf1 _ rfl (by omega) | exact hf1 t9 rfl (by omega)); replace q4 := eq_true q4; replace q5 := eq_true q5))
   go_ret
   exact ⟨re_, by repeat (first | (with_reducible first | exact b5.out | apply IsS152.alloc | apply IsS152.drewN | apply IsS152.drew | apply IsS152.set_1 | apply IsS152.set_2) | exact b5.out), by repeat (first | (with_reducible first | exact HB.out | apply below_alloc | apply pw_below_drewN | apply below_drew1 | refine below_set ?_ (IsS152.ge b5.out)) | exact HB.out), by repeat (first | (with_reducible first | exact HK.out | apply KeepBut.set_ | apply keep_drewN | apply keep_drew | apply keep_alloc) | exact HK.out)⟩
  ·rw [if_neg c5] at H
   exact absurd H (by simp)
 ·rw [if_neg c4] at H
  exact absurd H (by simp)

/-! ### spec_l1Once: function 102 -/
def spec_l1Once.f (s0_0 : List Int) (s0_1 : Int) (s0_2 : Int) (a1 : Int) : Option (Bool × Int × Int) := (spec_l1Below.f s0_0 s0_1 s0_2 a1).bind fun g4 => (some ((g4.1 == 0), g4.2.1, g4.2.2))
set_option maxHeartbeats 8000000 in
set_option maxRecDepth 100000 in
theorem spec_l1Once.calls (g : Nat) (s0_0 : List Int) (s0_1 : Int) (s0_2 : Int) (a1 : Int) (r1 : Bool) (r2 : Int) (r3 : Int) (w0 w : World) (hI : IsS152 w0 w g s0_0 s0_1 s0_2) (hB : Below w0.heap.size w0 w) (h : spec_l1Once.f s0_0 s0_1 s0_2 a1 = some (r1, r2, r3)) :
  Calls Try.prog 102 #[.pointer (some ⟨g, 0, none⟩), .int .i64 a1] w fun e w' => e = .returned (.bool r1) ∧ IsS152 w0 w' g s0_0 r2 r3 ∧ Below w0.heap.size w0 w' ∧ KeepBut w w' g none := by
 have b5 := mk_ hI; have HK := mk_ (KeepBut.refl w g none); have HL := mk_ hB.size; clear hI; have HW0 := mk_ hB.size; have HB := mk_ hB; clear hB
 have H : ((spec_l1Below.f s0_0 s0_1 s0_2 a1).bind fun g4 => (some ((g4.1 == 0), g4.2.1, g4.2.2))) = some (r1, r2, r3) := h
 clear h; replace H := Option.bind_eq_some_iff.mp H; obtain ⟨⟨y6, y7, y8⟩, o5, H⟩ := H
 replace H : (some ((y6 == 0), y7, y8)) = some (r1, r2, r3) := H
 have A3 := mk_ o5; clear o5
 simp only [Option.some.injEq, Prod.mk.injEq] at H
 obtain ⟨rfl, rfl, rfl⟩ := H
 go_enter Try.func102, Try.ntmps102
 go_wp2_with (first | ((with_reducible refine gc_ 82 rfl ?_); refine gl_ (some 7) rfl Try.func82 #[.pointer (some ⟨g, 0, none⟩), .int .i64 a1] ?_; (with_reducible refine (spec_l1Below.calls g s0_0 s0_1 s0_2 a1 y6 y7 y8 w0 _ ?a4 ?a5 A3.out).mono ?_); (case a4 => repeat (first | (with_reducible first | exact b5.out | apply IsS152.alloc | apply IsS152.drewN | apply IsS152.drew | apply IsS152.set_1 | apply IsS152.set_2) | exact b5.out)); (case a5 => exact HB.out); rintro e w4 ⟨rfl, hi, hb, hk⟩; refine ⟨_, rfl, ?_⟩; replace HK := mk_ (KeepBut.trans (by repeat (first | (with_reducible first | exact HK.out | apply KeepBut.set_ | apply keep_drewN | apply keep_drew | apply keep_alloc) | exact HK.out)) hk (.inl rfl)); replace HB := mk_ (hb); replace b5 := mk_ (hi); (try clear hb); (try clear hb2); (try clear hk); (try clear hi)))
 go_ret
 exact ⟨re_, by repeat (first | (with_reducible first | exact b5.out | apply IsS152.alloc | apply IsS152.drewN | apply IsS152.drew | apply IsS152.set_1 | apply IsS152.set_2) | exact b5.out), by repeat (first | (with_reducible first | exact HB.out | apply below_alloc | apply pw_below_drewN | apply below_drew1 | refine below_set ?_ (IsS152.ge b5.out)) | exact HB.out), by repeat (first | (with_reducible first | exact HK.out | apply KeepBut.set_ | apply keep_drewN | apply keep_drew | apply keep_alloc) | exact HK.out)⟩

/-! ### spec_DrawCrossings: function 47 -/
mutual
def spec_DrawCrossings.l0 : Nat → List Int → Int → Int → List Int → Int → Int → Option (List Int × Int)
 | 0, _, _, _, _, _, _ => none
 | k + 1, x5, x6, x7, a8, d9, g0 => if x7 > 0 then ((spec_l1Below.f a8 d9 g0 11).bind fun l4 => (if x5.length < 17592186044416 then (spec_DrawCrossings.l0 k (x5 ++ [wrap64 ((wrap64 (x6 + l4.1)) - 5)]) (wrap64 ((wrap64 (x6 + l4.1)) - 5)) (wrap64 (x7 - 1)) a8 l4.2.1 l4.2.2) else (none))) else ((spec_l1Below.f a8 d9 g0 30).bind fun d7 => (if d7.1 = 0 then ((spec_l1PickInt.f a8 d7.2.1 d7.2.2 (([(-1000001), (-1000000), 1000000, 1000001] : List Int))).bind fun c7 => (if x5.length < 17592186044416 then (spec_DrawCrossings.j1 k (x5 ++ [c7.1]) a8 c7.2.1 c7.2.2) else (none))) else (if d7.1 = 1 then ((spec_l1Below.f a8 d7.2.1 d7.2.2 2).bind fun c8 => (if 0 ≤ (wrap64 (300 + c8.1)) then (if (wrap64 (300 + c8.1) : Int).toNat ≤ 35184372088832 then (spec_DrawCrossings.j1 k (List.replicate (wrap64 (300 + c8.1) : Int).toNat 0) a8 c8.2.1 c8.2.2) else (none)) else (none))) else (spec_DrawCrossings.j1 k x5 a8 d7.2.1 d7.2.2))))
def spec_DrawCrossings.j1 : Nat → List Int → List Int → Int → Int → Option (List Int × Int)
 | 0, _, _, _, _ => none
 | k + 1, x5, a8, d9, g0 => (spec_l1Below.f a8 d9 g0 17).bind fun m8 => ((spec_l1Once.f a8 m8.2.1 m8.2.2 40).bind fun g5 => (if g5.1 = true then ((spec_l1PickInt.f a8 g5.2.1 g5.2.2 (([(-9223372036854775808), 9223372036854775807] : List Int))).bind fun d3 => (some (x5, d3.1))) else (some (x5, wrap64 (m8.1 - 8)))))
end
def spec_DrawCrossings.f (k : Nat) (l0 : List Int) : Option (List Int × Int) := (spec_l1New.f k l0).bind fun d4 => ((spec_l1Size.f l0 40).bind fun d8 => ((spec_l1Below.f d4.1 d4.2.1 d4.2.2 (wrap64 (2 * d8))).bind fun b2 => (spec_DrawCrossings.l0 k (([] : List Int)) 0 b2.1 d4.1 b2.2.1 b2.2.2)))
theorem spec_DrawCrossings.mono_l : ∀ k, (∀ y0 y1 y2 y3 y4 y5, LeO (spec_DrawCrossings.l0 k y0 y1 y2 y3 y4 y5) (spec_DrawCrossings.l0 (k + 1) y0 y1 y2 y3 y4 y5)) ∧ (∀ y0 y1 y2 y3, LeO (spec_DrawCrossings.j1 k y0 y1 y2 y3) (spec_DrawCrossings.j1 (k + 1) y0 y1 y2 y3))
 | 0 => ⟨fun _ _ _ _ _ _ r h => by simp [spec_DrawCrossings.l0] at h, fun _ _ _ _ r h => by simp [spec_DrawCrossings.j1] at h⟩
 | k + 1 => by
  obtain ⟨l7, q6⟩ := spec_DrawCrossings.mono_l k
  refine ⟨?_, ?_⟩
  ·intro y0 y1 y2 y3 y4 y5
   unfold spec_DrawCrossings.l0
   repeat' first
   | (with_reducible exact l7 _ _ _ _ _ _)
   | (with_reducible exact q6 _ _ _ _)
   | (with_reducible exact spec_l1New.mono _ _)
   | (with_reducible exact LeO.refl _)
   | (with_reducible exact LeO.none _)
   | (with_reducible refine LeO.ite ?_ ?_)
   | (with_reducible refine LeO.bind ?_ (fun _ => ?_))
   | exact l7 _ _ _ _ _ _
   | exact q6 _ _ _ _
   | exact spec_l1New.mono _ _
   | exact LeO.none _
   | refine LeO.ite ?_ ?_
   | refine LeO.bind ?_ (fun _ => ?_)
  ·intro y0 y1 y2 y3
   unfold spec_DrawCrossings.j1
   repeat' first
   | (with_reducible exact l7 _ _ _ _ _ _)
   | (with_reducible exact q6 _ _ _ _)
   | (with_reducible exact spec_l1New.mono _ _)
   | (with_reducible exact LeO.refl _)
   | (with_reducible exact LeO.none _)
   | (with_reducible refine LeO.ite ?_ ?_)
   | (with_reducible refine LeO.bind ?_ (fun _ => ?_))
   | exact l7 _ _ _ _ _ _
   | exact q6 _ _ _ _
   | exact spec_l1New.mono _ _
   | exact LeO.none _
   | refine LeO.ite ?_ ?_
   | refine LeO.bind ?_ (fun _ => ?_)
theorem spec_DrawCrossings.mono : ∀ a0 k, LeO (spec_DrawCrossings.f k a0) (spec_DrawCrossings.f (k + 1) a0) := by
 intro a0 k
 obtain ⟨l7, q6⟩ := spec_DrawCrossings.mono_l k
 unfold spec_DrawCrossings.f
 repeat' first
   | (with_reducible exact l7 _ _ _ _ _ _)
   | (with_reducible exact q6 _ _ _ _)
   | (with_reducible exact spec_l1New.mono _ _)
   | (with_reducible exact LeO.refl _)
   | (with_reducible exact LeO.none _)
   | (with_reducible refine LeO.ite ?_ ?_)
   | (with_reducible refine LeO.bind ?_ (fun _ => ?_))
   | exact l7 _ _ _ _ _ _
   | exact q6 _ _ _ _
   | exact spec_l1New.mono _ _
   | exact LeO.none _
   | refine LeO.ite ?_ ?_
   | refine LeO.bind ?_ (fun _ => ?_)
set_option maxHeartbeats 8000000 in
set_option maxRecDepth 100000 in
theorem spec_DrawCrossings.calls (k : Nat) (A0 : Option Addr) (c0 : Nat) (l0 : List Int) (r1 : List Int) (r2 : Int) (w : World) (hr0 : Kd.C (Kd.int .u8) w A0 l0.length l0) (hc0 : l0.length ≤ c0) (h : spec_DrawCrossings.f k l0 = some (r1, r2)) :
  Calls Try.prog 47 #[.slice A0 l0.length c0] w fun e w' => ∃ v0_ : Value, e = .returned (.tuple #[v0_, .int .i64 r2]) ∧ Kd.R (Kd.int .i64) 3 w' w.heap.size (fun _ => True) v0_ r1 ∧ Below w.heap.size w w' := by
 have o0 := mk_ hr0; have s4 := mk_ hc0; clear hr0 hc0; have HB := mk_ (Below.refl w.heap.size w)
 have H : ((spec_l1New.f k l0).bind fun d4 => ((spec_l1Size.f l0 40).bind fun d8 => ((spec_l1Below.f d4.1 d4.2.1 d4.2.2 (wrap64 (2 * d8))).bind fun b2 => (spec_DrawCrossings.l0 k (([] : List Int)) 0 b2.1 d4.1 b2.2.1 b2.2.2)))) = some (r1, r2) := h
 clear h; replace H := Option.bind_eq_some_iff.mp H; obtain ⟨⟨a6, l8, l9⟩, G9, H⟩ := H
 replace H : ((spec_l1Size.f l0 40).bind fun d8 => ((spec_l1Below.f a6 l8 l9 (wrap64 (2 * d8))).bind fun b2 => (spec_DrawCrossings.l0 k (([] : List Int)) 0 b2.1 a6 b2.2.1 b2.2.2))) = some (r1, r2) := H
 have A2 := mk_ G9; clear G9
 obtain ⟨o2, h6⟩ : ∃ y_ : List Int, y_ = (([] : List Int)) := ⟨_, rfl⟩
 replace H : ((spec_l1Size.f l0 40).bind fun d8 => ((spec_l1Below.f a6 l8 l9 (wrap64 (2 * d8))).bind fun b2 => (spec_DrawCrossings.l0 k o2 0 b2.1 a6 b2.2.1 b2.2.2))) = some (r1, r2) := by first | (rw [h6]; with_reducible exact H) | (have H2_ := (Option.bind_some _ _).symm.trans H; rw [h6]; with_reducible exact H2_) | (have H2_ := (Option.bind_some _ _).symm.trans H; with_reducible exact H2_) | with_reducible exact H | (rw [h6]; exact H) | exact H
 have o6 := mk_ h6; clear h6; replace H := Option.bind_eq_some_iff.mp H; obtain ⟨d8, o5, H⟩ := H
 replace H : ((spec_l1Below.f a6 l8 l9 (wrap64 (2 * d8))).bind fun b2 => (spec_DrawCrossings.l0 k o2 0 b2.1 a6 b2.2.1 b2.2.2)) = some (r1, r2) := H
 have A3 := mk_ o5; clear o5; replace H := Option.bind_eq_some_iff.mp H; obtain ⟨⟨q7, q8, q9⟩, H0, H⟩ := H
 replace H : (spec_DrawCrossings.l0 k o2 0 q7 a6 q8 q9) = some (r1, r2) := H
 have A4 := mk_ H0; clear H0
 have H' := mk_ H
 clear H
 go_enter Try.func47, Try.ntmps47
 go_wp2_with (first | ((with_reducible refine gc_ 80 rfl ?_); refine gl_ (some 10) rfl Try.func80 #[.slice A0 l0.length c0] ?_; (with_reducible refine (spec_l1New.calls k _ _ l0 a6 l8 l9 w _ ?a4 ?a5 ?h7 A2.out).mono ?_); (case a4 => exact HB.out); (case a5 => exact o0.out); (case h7 => exact s4.out); rintro e w5 ⟨g131, rfl, hi, hb, hb2⟩; refine ⟨_, rfl, ?_⟩; replace HB := mk_ (hb); have a3 := mk_ (hi); (try clear hb); (try clear hb2); (try clear hk); (try clear hi)) | ((with_reducible refine gd_ 11 rfl ?_); refine Kd.R_lit (Kd.int .i64) _ 3 ?hg (N := 11) ?hd (xs := ([] : List Int)) (inner := []) (ok := fun _ => True) (okp := fun _ => True) ?hr ?hp (fun _ hk => hk) trivial (Below.refl _ _) (Nat.le_refl _) (by simp) ?_; (case hd => rfl); (case hg => rfl); (case hr => exact hr_); (case hp => exact (Reps.none _ _)); intro v133 w6 y9 hb hg_ hnew_; clear hg_ hnew_; (first | rw [← o6.out] at y9 | (simp only [Int.reduceToNat] at y9; rw [← o6.out] at y9)); have m9 := mk_ (Kd.R_lower y9 (below_size (by exact HB.out))); replace a3 := mk_ (IsS152.below (by repeat (first | (with_reducible first | exact a3.out | apply IsS152.alloc | apply IsS152.drewN | apply IsS152.drew | apply IsS152.set_1 | apply IsS152.set_2) | exact a3.out)) hb); replace HB := bp_ HB hb; clear hb y9) | ((with_reducible refine gc_ 100 rfl ?_); refine gl_ (some 14) rfl Try.func100 #[.slice A0 l0.length c0, .int .i64 40] ?_; (with_reducible refine (spec_l1Size.calls _ _ l0 40 d8 _ ?a4 ?a5 A3.out).mono ?_); (case a4 => exact cw_ (Kd.C_below o0.out HB.out)); (case a5 => exact s4.out); rintro e w' ⟨rfl, ⟨nd, rfl⟩⟩; refine ⟨_, rfl, ?_⟩) | ((with_reducible refine gc_ 82 rfl ?_); refine gl_ (some 16) rfl Try.func82 #[.pointer (some ⟨g131, 0, none⟩), .int .i64 (wrap64 (2 * d8))] ?_; (with_reducible refine (spec_l1Below.calls g131 a6 l8 l9 (wrap64 (2 * d8)) q7 q8 q9 w _ ?a4 ?a5 A4.out).mono ?_); (case a4 => repeat (first | (with_reducible first | exact a3.out | apply IsS152.alloc | apply IsS152.drewN | apply IsS152.drew | apply IsS152.set_1 | apply IsS152.set_2) | exact a3.out)); (case a5 => repeat (first | (with_reducible first | exact HB.out | apply below_alloc | apply pw_below_drewN | apply below_drew1 | refine below_set ?_ (IsS152.ge a3.out)) | exact HB.out)); rintro e w8 ⟨rfl, hi, hb, hk⟩; refine ⟨_, rfl, ?_⟩; replace m9 := mk_ (Kd.R_mono (Kd.R_keep (IsS152.apart (show IsS152 w _ g131 a6 l8 l9 from by repeat (first | (with_reducible first | exact a3.out | apply IsS152.alloc | apply IsS152.drewN | apply IsS152.drew | apply IsS152.set_1 | apply IsS152.set_2) | exact a3.out)) (kx_ m9) (by decide)) hk (fun _ h => h.2)) (fun _ h => h.1)); replace HB := mk_ (hb); replace a3 := mk_ (hi); (try clear hb); (try clear hb2); (try clear hk); (try clear hi)))
 go_loopg [5, 6, 7] k (fun kq v5 v6 v7 w' => ∃ (b7 : List Int) (g9 : Int) (h3 : Int) (b3 : Int) (b4 : Int), v6 = .int .i64 g9 ∧ v7 = .int .i64 h3 ∧ Aside0 (spec_DrawCrossings.l0 kq b7 g9 h3 a6 b3 b4 = some (r1, r2)) ∧ Aside0 (kq ≤ k) ∧ Aside0 (Kd.R (Kd.int .i64) 3 w' w.heap.size (fun _ => True) v5 b7) ∧ Aside0 (IsS152 w w' g131 a6 b3 b4) ∧ Aside0 (Below w.heap.size w w'))
 case atStart => exact ⟨(o2), (0), (q7), (q8), (q9), rf_, rf_, H', ⟨Nat.le_refl _⟩, kw_ m9, ⟨by repeat (first | (with_reducible first | exact a3.out | apply IsS152.alloc | apply IsS152.drewN | apply IsS152.drew | apply IsS152.set_1 | apply IsS152.set_2) | exact a3.out)⟩, ⟨by repeat (first | (with_reducible first | exact HB.out | apply below_alloc | apply pw_below_drewN | apply below_drew1 | refine below_set ?_ (IsS152.ge a3.out)) | exact HB.out)⟩⟩
 case round =>
  clear H'
  obtain ⟨b7, g9, h3, b3, b4, rfl, rfl, HA, o4, a7, a3, HB⟩ := hrel
  cases gk with
  | zero => exact absurd HA.out (by simp [spec_DrawCrossings.l0])
  | succ k1 =>
   have H := HA.out; clear HA
   simp only [spec_DrawCrossings.l0] at H
   by_cases c9 : h3 > 0
   ·rw [if_pos c9] at H; have F2 : decide (0 < h3) = true := decide_eq_true c9; clear c9; replace H := Option.bind_eq_some_iff.mp H; obtain ⟨⟨h8, n0, n1⟩, m7, H⟩ := H
    replace H : (if b7.length < 17592186044416 then (spec_DrawCrossings.l0 k1 (b7 ++ [wrap64 ((wrap64 (g9 + h8)) - 5)]) (wrap64 ((wrap64 (g9 + h8)) - 5)) (wrap64 (h3 - 1)) a6 n0 n1) else (none)) = some (r1, r2) := H
    have F0 := mk_ m7; clear m7; by_cases D4 : b7.length < 17592186044416
    ·rw [if_pos D4] at H; have LMc11 := mk_ D4; clear D4
     obtain ⟨A6, h9⟩ : ∃ y_ : List Int, y_ = (b7 ++ [wrap64 ((wrap64 (g9 + h8)) - 5)]) := ⟨_, rfl⟩
     replace H : (spec_DrawCrossings.l0 k1 A6 (wrap64 ((wrap64 (g9 + h8)) - 5)) (wrap64 (h3 - 1)) a6 n0 n1) = some (r1, r2) := by first | (rw [h9]; with_reducible exact H) | (have H2_ := (Option.bind_some _ _).symm.trans H; rw [h9]; with_reducible exact H2_) | (have H2_ := (Option.bind_some _ _).symm.trans H; with_reducible exact H2_) | with_reducible exact H | (rw [h9]; exact H) | exact H
     have A7 := mk_ h9; clear h9
     have H' := mk_ H
     clear H
     go_wp2_with (first | ((with_reducible refine gc_ 82 rfl ?_); refine gl_ (some 23) rfl Try.func82 #[.pointer (some ⟨g131, 0, none⟩), .int .i64 11] ?_; (with_reducible refine (spec_l1Below.calls g131 a6 b3 b4 11 h8 n0 n1 w _ ?a4 ?a5 F0.out).mono ?_); (case a4 => repeat (first | (with_reducible first | exact a3.out | apply IsS152.alloc | apply IsS152.drewN | apply IsS152.drew | apply IsS152.set_1 | apply IsS152.set_2) | exact a3.out)); (case a5 => exact HB.out); rintro e J3 ⟨rfl, hi, hb, hk⟩; refine ⟨_, rfl, ?_⟩; replace a7 := mk_ (Kd.R_mono (Kd.R_keep (IsS152.apart (show IsS152 w _ g131 a6 b3 b4 from by repeat (first | (with_reducible first | exact a3.out | apply IsS152.alloc | apply IsS152.drewN | apply IsS152.drew | apply IsS152.set_1 | apply IsS152.set_2) | exact a3.out)) (by exact a7.out) (by decide)) hk (fun _ h => h.2)) (fun _ h => h.1)); replace HB := mk_ (hb); replace a3 := mk_ (hi); (try clear hb); (try clear hb2); (try clear hk); (try clear hi)) | ((with_reducible refine gate_builtin (b := .append) (xs := #[.tmp 26, .tmp 28]) rfl ?_); at_builtin; refine Kd.R_append (Kd.int .i64) (w0 := w) w.heap.size rfl (.tmp 26) (.tmp 28) 22 3 (.int .i64 0) 8 rfl Try.underlying22 info3 rfl (by decide) (by omega) u5 b7 (wrap64 ((wrap64 (g9 + h8)) - 5)) [.int .i64 (wrap64 ((wrap64 (g9 + h8)) - 5))] (fun _ => True) (fun _ => False) rfl rfl ?aP (fun _ hk => hk.elim) ?aF ?aO ?aB ?aS ?aL ?_; (case aP => exact rfl); (case aB => exact (by exact HB.out)); (case aF => exact (fun _ _ => trivial)); (case aO => exact (by exact a7.out)); (case aS => exact (below_size (by exact HB.out))); (case aL => have := LMc11.out; omega); intro v143 I2 ho hb hg hat; rw [← A7.out] at ho; replace a3 := mk_ (IsS152.grown (show IsS152 w _ g131 a6 n0 n1 from by repeat (first | (with_reducible first | exact a3.out | apply IsS152.alloc | apply IsS152.drewN | apply IsS152.drew | apply IsS152.set_1 | apply IsS152.set_2) | exact a3.out)) hg (IsS152.own_ne a3.out a7.out (by decide))); replace HB := mk_ (hb); have B0 := mk_ (ho); clear a7; clear ho hb hg hat))
     go_roundg k1
     case measure => have := o4.out; omega
     case rel => exact ⟨(A6), (wrap64 ((wrap64 (g9 + h8)) - 5)), (wrap64 (h3 - 1)), (n0), (n1), rf_, rf_, H', ⟨by have := o4.out; omega⟩, kw_ B0, ⟨by repeat (first | (with_reducible first | exact a3.out | apply IsS152.alloc | apply IsS152.drewN | apply IsS152.drew | apply IsS152.set_1 | apply IsS152.set_2) | exact a3.out)⟩, ⟨by repeat (first | (with_reducible first | exact HB.out | apply below_alloc | apply pw_below_drewN | apply below_drew1 | refine below_set ?_ (IsS152.ge a3.out)) | exact HB.out)⟩⟩
    ·rw [if_neg D4] at H
     exact absurd H (by simp)
   ·rw [if_neg c9] at H; have F2 : decide (0 < h3) = false := decide_eq_false c9; clear c9; replace H := Option.bind_eq_some_iff.mp H; obtain ⟨⟨d6, g6, g7⟩, B1, H⟩ := H
    replace H : (if d6 = 0 then ((spec_l1PickInt.f a6 g6 g7 (([(-1000001), (-1000000), 1000000, 1000001] : List Int))).bind fun c7 => (if b7.length < 17592186044416 then (spec_DrawCrossings.j1 k1 (b7 ++ [c7.1]) a6 c7.2.1 c7.2.2) else (none))) else (if d6 = 1 then ((spec_l1Below.f a6 g6 g7 2).bind fun c8 => (if 0 ≤ (wrap64 (300 + c8.1)) then (if (wrap64 (300 + c8.1) : Int).toNat ≤ 35184372088832 then (spec_DrawCrossings.j1 k1 (List.replicate (wrap64 (300 + c8.1) : Int).toNat 0) a6 c8.2.1 c8.2.2) else (none)) else (none))) else (spec_DrawCrossings.j1 k1 b7 a6 g6 g7))) = some (r1, r2) := H
    have I6 := mk_ B1; clear B1; have s0 := mk_ H; clear H
    go_upto_block 2 with (first | ((with_reducible refine gc_ 82 rfl ?_); refine gl_ (some 31) rfl Try.func82 #[.pointer (some ⟨g131, 0, none⟩), .int .i64 30] ?_; (with_reducible refine (spec_l1Below.calls g131 a6 b3 b4 30 d6 g6 g7 w _ ?a4 ?a5 I6.out).mono ?_); (case a4 => repeat (first | (with_reducible first | exact a3.out | apply IsS152.alloc | apply IsS152.drewN | apply IsS152.drew | apply IsS152.set_1 | apply IsS152.set_2) | exact a3.out)); (case a5 => exact HB.out); rintro e I3 ⟨rfl, hi, hb, hk⟩; refine ⟨_, rfl, ?_⟩; replace a7 := mk_ (Kd.R_mono (Kd.R_keep (IsS152.apart (show IsS152 w _ g131 a6 b3 b4 from by repeat (first | (with_reducible first | exact a3.out | apply IsS152.alloc | apply IsS152.drewN | apply IsS152.drew | apply IsS152.set_1 | apply IsS152.set_2) | exact a3.out)) (by exact a7.out) (by decide)) hk (fun _ h => h.2)) (fun _ h => h.1)); replace HB := mk_ (hb); replace a3 := mk_ (hi); (try clear hb); (try clear hb2); (try clear hk); (try clear hi)))
    (try simp only [Act.put, List.setIfInBounds_toArray, List.set_cons_zero, List.set_cons_succ])
    go_cut [5] (fun v5 wc => ∃ (kq : Nat) (d0 : List Int) (a9 : Int) (b0 : Int), Aside0 (spec_DrawCrossings.j1 kq d0 a6 a9 b0 = some (r1, r2)) ∧ Aside0 (kq ≤ k1) ∧ Aside0 (Kd.R (Kd.int .i64) 3 wc w.heap.size (fun _ => True) v5 d0) ∧ Aside0 (IsS152 w wc g131 a6 a9 b0) ∧ Aside0 (Below w.heap.size w wc))
    case first =>
     have H := s0.out; clear s0; by_cases s1 : d6 = 0
     ·rw [if_pos s1] at H; have j0 : (d6 == 0) = true := beq_iff_eq.mpr s1; have B2 : (d6 != 0) = false := bne_eq_false_iff_eq.mpr s1; clear s1
      (first | rw [j0] | (simp only [i64_w, i32_w]; rw [j0]) | skip)
      obtain ⟨o3, j2⟩ : ∃ y_ : List Int, y_ = (([(-1000001), (-1000000), 1000000, 1000001] : List Int)) := ⟨_, rfl⟩
      replace H : ((spec_l1PickInt.f a6 g6 g7 o3).bind fun c7 => (if b7.length < 17592186044416 then (spec_DrawCrossings.j1 k1 (b7 ++ [c7.1]) a6 c7.2.1 c7.2.2) else (none))) = some (r1, r2) := by first | (rw [j2]; with_reducible exact H) | (have H2_ := (Option.bind_some _ _).symm.trans H; rw [j2]; with_reducible exact H2_) | (have H2_ := (Option.bind_some _ _).symm.trans H; with_reducible exact H2_) | with_reducible exact H | (rw [j2]; exact H) | exact H
      have o7 := mk_ j2; clear j2; replace H := Option.bind_eq_some_iff.mp H; obtain ⟨⟨n2, n3, n4⟩, B3, H⟩ := H
      replace H : (if b7.length < 17592186044416 then (spec_DrawCrossings.j1 k1 (b7 ++ [n2]) a6 n3 n4) else (none)) = some (r1, r2) := H
      have I7 := mk_ B3; clear B3; by_cases D5 : b7.length < 17592186044416
      ·rw [if_pos D5] at H; have LMc19 := mk_ D5; clear D5
       obtain ⟨B4, j3⟩ : ∃ y_ : List Int, y_ = (b7 ++ [n2]) := ⟨_, rfl⟩
       replace H : (spec_DrawCrossings.j1 k1 B4 a6 n3 n4) = some (r1, r2) := by first | (rw [j3]; with_reducible exact H) | (have H2_ := (Option.bind_some _ _).symm.trans H; rw [j3]; with_reducible exact H2_) | (have H2_ := (Option.bind_some _ _).symm.trans H; with_reducible exact H2_) | with_reducible exact H | (rw [j3]; exact H) | exact H
       have B5 := mk_ j3; clear j3
       have H' := mk_ H
       clear H
       go_wp2_with (first | ((with_reducible refine gd_ 36 rfl ?_); refine Kd.R_lit (Kd.int .i64) _ 3 ?hg (N := 36) ?hd (xs := ([(-1000001), (-1000000), 1000000, 1000001] : List Int)) (inner := [.int .i64 (-1000001), .int .i64 (-1000000), .int .i64 1000000, .int .i64 1000001]) (ok := fun _ => True) (okp := fun _ => True) ?hr ?hp (fun _ hk => hk) trivial (Below.refl _ _) (Nat.le_refl _) (by simp) ?_; (case hd => rfl); (case hg => rfl); (case hr => exact hr_); (case hp => exact (Reps.one (show Kd.M (Kd.int .i64) _ _ _ (-1000001) [.int .i64 (-1000001)] from rfl) (Reps.one (show Kd.M (Kd.int .i64) _ _ _ (-1000000) [.int .i64 (-1000000)] from rfl) (Reps.one (show Kd.M (Kd.int .i64) _ _ _ 1000000 [.int .i64 1000000] from rfl) (Reps.one (show Kd.M (Kd.int .i64) _ _ _ 1000001 [.int .i64 1000001] from rfl) (Reps.none _ _)))))); intro v149 J4 m0 hb hg_ hnew_; clear hg_ hnew_; (first | rw [← o7.out] at m0 | (simp only [Int.reduceToNat] at m0; rw [← o7.out] at m0)); have d5 := mk_ (Kd.R_lower (Kd.R_new' m0 (Kd.R_lt (by exact a7.out))) (below_size (by exact HB.out))); replace a7 := mk_ (Kd.R_elder' (by exact a7.out) (Kd.R_base m0) hb); replace a3 := mk_ (IsS152.below (by repeat (first | (with_reducible first | exact a3.out | apply IsS152.alloc | apply IsS152.drewN | apply IsS152.drew | apply IsS152.set_1 | apply IsS152.set_2) | exact a3.out)) hb); replace HB := bp_ HB hb; clear hb m0; obtain ⟨B6, B7, F3⟩ := Kd.R_slice d5.out; subst F3) | ((with_reducible refine gc_ 101 rfl ?_); refine gl_ (some 37) rfl Try.func101 #[.pointer (some ⟨g131, 0, none⟩), .slice B6 o3.length B7] ?_; (with_reducible refine (spec_l1PickInt.calls g131 a6 g6 g7 _ _ o3 n2 n3 n4 w _ ?a4 ?a5 ?h7 ?n5 ?n6 I7.out).mono ?_); (case a4 => repeat (first | (with_reducible first | exact a3.out | apply IsS152.alloc | apply IsS152.drewN | apply IsS152.drew | apply IsS152.set_1 | apply IsS152.set_2) | exact a3.out)); (case a5 => exact HB.out); (case h7 => exact cw_ (rr_ d5)); (case n5 => exact (Kd.R_reads' d5.out).2.1); (case n6 => exact far_slice (IsS152.own_ne a3.out d5.out (by decide))); rintro e J5 ⟨rfl, hi, hb, hk⟩; refine ⟨_, rfl, ?_⟩; replace a7 := mk_ (Kd.R_mono (Kd.R_keep (IsS152.apart (show IsS152 w _ g131 a6 g6 g7 from by repeat (first | (with_reducible first | exact a3.out | apply IsS152.alloc | apply IsS152.drewN | apply IsS152.drew | apply IsS152.set_1 | apply IsS152.set_2) | exact a3.out)) (by exact a7.out) (by decide)) hk (fun _ h => h.2)) (fun _ h => h.1)); replace d5 := mk_ (Kd.R_mono (Kd.R_keep (IsS152.apart (show IsS152 w _ g131 a6 g6 g7 from by repeat (first | (with_reducible first | exact a3.out | apply IsS152.alloc | apply IsS152.drewN | apply IsS152.drew | apply IsS152.set_1 | apply IsS152.set_2) | exact a3.out)) (by exact d5.out) (by decide)) hk (fun _ h => h.2)) (fun _ h => h.1)); replace HB := mk_ (hb); replace a3 := mk_ (hi); (try clear hb); (try clear hb2); (try clear hk); (try clear hi)) | ((with_reducible refine gate_builtin (b := .append) (xs := #[.tmp 34, .tmp 38]) rfl ?_); at_builtin; refine Kd.R_append (Kd.int .i64) (w0 := w) w.heap.size rfl (.tmp 34) (.tmp 38) 22 3 (.int .i64 0) 8 rfl Try.underlying22 info3 rfl (by decide) (by omega) u5 b7 n2 [.int .i64 n2] (fun k_ => some k_ ≠ (.slice B6 o3.length B7 : Value).ownBlock) (fun _ => False) rfl rfl ?aP (fun _ hk => hk.elim) ?aF ?aO ?aB ?aS ?aL ?_; (case aP => exact rfl); (case aB => exact (by exact HB.out)); (case aF => exact (fun k_ hk => Kd.fresh' (Kd.R_lt (by exact d5.out)) k_ hk)); (case aO => exact (by exact Kd.R_mono a7.out (fun _ hk => hk.2))); (case aS => exact (below_size (by exact HB.out))); (case aL => have := LMc19.out; omega); intro v155 J6 ho hb hg hat; rw [← B5.out] at ho; replace a3 := mk_ (IsS152.grown (show IsS152 w _ g131 a6 n3 n4 from by repeat (first | (with_reducible first | exact a3.out | apply IsS152.alloc | apply IsS152.drewN | apply IsS152.drew | apply IsS152.set_1 | apply IsS152.set_2) | exact a3.out)) hg (IsS152.own_ne a3.out a7.out (by decide))); replace d5 := mk_ (Kd.R_after (ok := (fun _ => True)) (by exact d5.out) hg hat); replace HB := mk_ (hb); have B8 := mk_ (ho); clear a7; clear ho hb hg hat))
       go_meet
       case rel => exact ⟨_, (B4), (n3), (n4), H', ⟨by have := o4.out; first | omega | exact Nat.le_refl _⟩, km_ B8 (fun _ hk => trivial), ⟨by repeat (first | (with_reducible first | exact a3.out | apply IsS152.alloc | apply IsS152.drewN | apply IsS152.drew | apply IsS152.set_1 | apply IsS152.set_2) | exact a3.out)⟩, ⟨by repeat (first | (with_reducible first | exact HB.out | apply below_alloc | apply pw_below_drewN | apply below_drew1 | refine below_set ?_ (IsS152.ge a3.out)) | exact HB.out)⟩⟩
      ·rw [if_neg D5] at H
       exact absurd H (by simp)
     ·rw [if_neg s1] at H; have j0 : (d6 == 0) = false := beq_eq_false_iff_ne.mpr s1; have B2 : (d6 != 0) = true := bne_iff_ne.mpr s1
      (first | rw [j0] | (simp only [i64_w, i32_w]; rw [j0]) | skip)
      by_cases s2 : d6 = 1
      ·rw [if_pos s2] at H; have B9 : (d6 == 1) = true := beq_iff_eq.mpr s2; have C0 : (d6 != 1) = false := bne_eq_false_iff_eq.mpr s2; clear s2; replace H := Option.bind_eq_some_iff.mp H; obtain ⟨⟨m1, n7, n8⟩, C1, H⟩ := H
       replace H : (if 0 ≤ (wrap64 (300 + m1)) then (if (wrap64 (300 + m1) : Int).toNat ≤ 35184372088832 then (spec_DrawCrossings.j1 k1 (List.replicate (wrap64 (300 + m1) : Int).toNat 0) a6 n7 n8) else (none)) else (none)) = some (r1, r2) := H
       have H2 := mk_ C1; clear C1
       obtain ⟨g8, l5⟩ : ∃ j_ : Int, (wrap64 (300 + m1)) = j_ := ⟨_, rfl⟩
       replace H : (if 0 ≤ (g8) then (if (g8 : Int).toNat ≤ 35184372088832 then (spec_DrawCrossings.j1 k1 (List.replicate (g8 : Int).toNat 0) a6 n7 n8) else (none)) else (none)) = some (r1, r2) := by first | (rw [l5] at H; exact H) | (simp only [l5] at H ⊢; exact H)
       (try rw [l5] at H2)
       have hji27w : (IntKind.i64.wrap (300 + m1)) = g8 := (i64_w _).trans l5
       by_cases C2 : 0 ≤ (g8)
       ·rw [if_pos C2] at H
        have H3 := eq_true C2
        have H4 : decide (0 ≤ (g8)) = true := decide_eq_true C2; clear C2; by_cases C3 : (g8 : Int).toNat ≤ 35184372088832
        ·rw [if_pos C3] at H
         have H5 := eq_true C3
         have H6 : decide ((g8 : Int).toNat ≤ 35184372088832) = true := decide_eq_true C3; clear C3
         obtain ⟨C4, j4⟩ : ∃ y_ : List Int, y_ = (List.replicate (g8 : Int).toNat 0) := ⟨_, rfl⟩
         replace H : (spec_DrawCrossings.j1 k1 C4 a6 n7 n8) = some (r1, r2) := by first | (rw [j4]; with_reducible exact H) | (have H2_ := (Option.bind_some _ _).symm.trans H; rw [j4]; with_reducible exact H2_) | (have H2_ := (Option.bind_some _ _).symm.trans H; with_reducible exact H2_) | with_reducible exact H | (rw [j4]; exact H) | exact H
         have o8 := mk_ j4; clear j4
         have H' := mk_ H
         clear H
         go_wp2_with (first | ((with_reducible refine gc_ 82 rfl ?_); refine gl_ (some 43) rfl Try.func82 #[.pointer (some ⟨g131, 0, none⟩), .int .i64 2] ?_; (with_reducible refine (spec_l1Below.calls g131 a6 g6 g7 2 m1 n7 n8 w _ ?a4 ?a5 H2.out).mono ?_); (case a4 => repeat (first | (with_reducible first | exact a3.out | apply IsS152.alloc | apply IsS152.drewN | apply IsS152.drew | apply IsS152.set_1 | apply IsS152.set_2) | exact a3.out)); (case a5 => exact HB.out); rintro e J7 ⟨rfl, hi, hb, hk⟩; refine ⟨_, rfl, ?_⟩; replace a7 := mk_ (Kd.R_mono (Kd.R_keep (IsS152.apart (show IsS152 w _ g131 a6 g6 g7 from by repeat (first | (with_reducible first | exact a3.out | apply IsS152.alloc | apply IsS152.drewN | apply IsS152.drew | apply IsS152.set_1 | apply IsS152.set_2) | exact a3.out)) (by exact a7.out) (by decide)) hk (fun _ h => h.2)) (fun _ h => h.1)); replace HB := mk_ (hb); replace a3 := mk_ (hi); (try clear hb); (try clear hb2); (try clear hk); (try clear hi)) | ((with_reducible refine gd_ 45 rfl ?_); refine Kd.R_make (Kd.int .i64) _ 3 rfl (N := 45) rfl 22 _ _ rfl g8 rfl rfl Try.underlying22 (.int .i64 0) 8 info3 rfl (by decide) (by omega) 0 (ok := fun _ => True) (okp := fun _ => True) rfl (fun _ hk => hk) trivial (od_) (Nat.le_trans (Nat.mul_le_mul_right _ (od_ : g8.toNat ≤ 35184372088832)) (by omega)) (Below.refl _ _) (Nat.le_refl _) ?_; intro v161 J8 m2 hb hg_ hnew_; clear hg_ hnew_; (first | rw [← o8.out] at m2 | (simp only [Int.reduceToNat] at m2; rw [← o8.out] at m2)); have C5 := mk_ (Kd.R_lower (Kd.R_new' m2 (Kd.R_lt (by exact a7.out))) (below_size (by exact HB.out))); replace a7 := mk_ (Kd.R_elder' (by exact a7.out) (Kd.R_base m2) hb); replace a3 := mk_ (IsS152.below (by repeat (first | (with_reducible first | exact a3.out | apply IsS152.alloc | apply IsS152.drewN | apply IsS152.drew | apply IsS152.set_1 | apply IsS152.set_2) | exact a3.out)) hb); replace HB := bp_ HB hb; clear hb m2))
         go_meet
         case rel => exact ⟨_, (C4), (n7), (n8), H', ⟨by have := o4.out; first | omega | exact Nat.le_refl _⟩, km_ C5 (fun _ hk => trivial), ⟨by repeat (first | (with_reducible first | exact a3.out | apply IsS152.alloc | apply IsS152.drewN | apply IsS152.drew | apply IsS152.set_1 | apply IsS152.set_2) | exact a3.out)⟩, ⟨by repeat (first | (with_reducible first | exact HB.out | apply below_alloc | apply pw_below_drewN | apply below_drew1 | refine below_set ?_ (IsS152.ge a3.out)) | exact HB.out)⟩⟩
        ·rw [if_neg C3] at H
         exact absurd H (by simp)
       ·rw [if_neg C2] at H
        exact absurd H (by simp)
      ·rw [if_neg s2] at H; have B9 : (d6 == 1) = false := beq_eq_false_iff_ne.mpr s2; have C0 : (d6 != 1) = true := bne_iff_ne.mpr s2
       have H' := mk_ H
       clear H; go_wp2; go_meet
       case rel => exact ⟨_, (b7), (g6), (g7), H', ⟨by have := o4.out; first | omega | exact Nat.le_refl _⟩, kw_ a7, ⟨by repeat (first | (with_reducible first | exact a3.out | apply IsS152.alloc | apply IsS152.drewN | apply IsS152.drew | apply IsS152.set_1 | apply IsS152.set_2) | exact a3.out)⟩, ⟨by repeat (first | (with_reducible first | exact HB.out | apply below_alloc | apply pw_below_drewN | apply below_drew1 | refine below_set ?_ (IsS152.ge a3.out)) | exact HB.out)⟩⟩
    case rest =>
     clear s0; (try clear c9)
     obtain ⟨kq, d0, a9, b0, HA, I8, a7, a3, HB⟩ := hcut
     cases kq with
     | zero => exact absurd HA.out (by simp [spec_DrawCrossings.j1])
     | succ kj14 =>
      have H := HA.out; clear HA
      simp only [spec_DrawCrossings.j1] at H
      replace H := Option.bind_eq_some_iff.mp H; obtain ⟨⟨n9, j8, j9⟩, C6, H⟩ := H
      replace H : ((spec_l1Once.f a6 j8 j9 40).bind fun g5 => (if g5.1 = true then ((spec_l1PickInt.f a6 g5.2.1 g5.2.2 (([(-9223372036854775808), 9223372036854775807] : List Int))).bind fun d3 => (some (d0, d3.1))) else (some (d0, wrap64 (n9 - 8))))) = some (r1, r2) := H
      have H7 := mk_ C6; clear C6; replace H := Option.bind_eq_some_iff.mp H; obtain ⟨⟨C7, j5, j6⟩, C8, H⟩ := H
      replace H : (if C7 = true then ((spec_l1PickInt.f a6 j5 j6 (([(-9223372036854775808), 9223372036854775807] : List Int))).bind fun d3 => (some (d0, d3.1))) else (some (d0, wrap64 (n9 - 8)))) = some (r1, r2) := H
      have H8 := mk_ C8; clear C8; by_cases D6 : C7 = true
      ·subst D6
       have H1 : ((spec_l1PickInt.f a6 j5 j6 (([(-9223372036854775808), 9223372036854775807] : List Int))).bind fun d3 => (some (d0, d3.1))) = some (r1, r2) := by rw [if_pos rfl] at H; exact H
       clear H
       have H := H1
       clear H1
       obtain ⟨s3, j7⟩ : ∃ y_ : List Int, y_ = (([(-9223372036854775808), 9223372036854775807] : List Int)) := ⟨_, rfl⟩
       replace H : ((spec_l1PickInt.f a6 j5 j6 s3).bind fun d3 => (some (d0, d3.1))) = some (r1, r2) := by first | (rw [j7]; with_reducible exact H) | (have H2_ := (Option.bind_some _ _).symm.trans H; rw [j7]; with_reducible exact H2_) | (have H2_ := (Option.bind_some _ _).symm.trans H; with_reducible exact H2_) | with_reducible exact H | (rw [j7]; exact H) | exact H
       have o9 := mk_ j7; clear j7; replace H := Option.bind_eq_some_iff.mp H; obtain ⟨⟨C9, F4, F5⟩, D0, H⟩ := H
       replace H : (some (d0, C9)) = some (r1, r2) := H
       have I9 := mk_ D0; clear D0
       simp only [Option.some.injEq, Prod.mk.injEq] at H
       obtain ⟨rfl, rfl⟩ := H
       go_wp2_with (first | ((with_reducible refine gc_ 82 rfl ?_); refine gl_ (some 47) rfl Try.func82 #[.pointer (some ⟨g131, 0, none⟩), .int .i64 17] ?_; (with_reducible refine (spec_l1Below.calls g131 a6 a9 b0 17 n9 j8 j9 w _ ?a4 ?a5 H7.out).mono ?_); (case a4 => repeat (first | (with_reducible first | exact a3.out | apply IsS152.alloc | apply IsS152.drewN | apply IsS152.drew | apply IsS152.set_1 | apply IsS152.set_2) | exact a3.out)); (case a5 => exact HB.out); rintro e J9 ⟨rfl, hi, hb, hk⟩; refine ⟨_, rfl, ?_⟩; replace a7 := mk_ (Kd.R_mono (Kd.R_keep (IsS152.apart (show IsS152 w _ g131 a6 a9 b0 from by repeat (first | (with_reducible first | exact a3.out | apply IsS152.alloc | apply IsS152.drewN | apply IsS152.drew | apply IsS152.set_1 | apply IsS152.set_2) | exact a3.out)) (by exact a7.out) (by decide)) hk (fun _ h => h.2)) (fun _ h => h.1)); replace HB := mk_ (hb); replace a3 := mk_ (hi); (try clear hb); (try clear hb2); (try clear hk); (try clear hi)) | ((with_reducible refine gc_ 102 rfl ?_); refine gl_ (some 50) rfl Try.func102 #[.pointer (some ⟨g131, 0, none⟩), .int .i64 40] ?_; (with_reducible refine (spec_l1Once.calls g131 a6 j8 j9 40 true j5 j6 w _ ?a4 ?a5 H8.out).mono ?_); (case a4 => repeat (first | (with_reducible first | exact a3.out | apply IsS152.alloc | apply IsS152.drewN | apply IsS152.drew | apply IsS152.set_1 | apply IsS152.set_2) | exact a3.out)); (case a5 => exact HB.out); rintro e L0 ⟨rfl, hi, hb, hk⟩; refine ⟨_, rfl, ?_⟩; replace a7 := mk_ (Kd.R_mono (Kd.R_keep (IsS152.apart (show IsS152 w _ g131 a6 j8 j9 from by repeat (first | (with_reducible first | exact a3.out | apply IsS152.alloc | apply IsS152.drewN | apply IsS152.drew | apply IsS152.set_1 | apply IsS152.set_2) | exact a3.out)) (by exact a7.out) (by decide)) hk (fun _ h => h.2)) (fun _ h => h.1)); replace HB := mk_ (hb); replace a3 := mk_ (hi); (try clear hb); (try clear hb2); (try clear hk); (try clear hi)) | ((with_reducible refine gd_ 52 rfl ?_); refine Kd.R_lit (Kd.int .i64) _ 3 ?hg (N := 52) ?hd (xs := ([(-9223372036854775808), 9223372036854775807] : List Int)) (inner := [.int .i64 (-9223372036854775808), .int .i64 9223372036854775807]) (ok := fun _ => True) (okp := fun _ => True) ?hr ?hp (fun _ hk => hk) trivial (Below.refl _ _) (Nat.le_refl _) (by simp) ?_; (case hd => rfl); (case hg => rfl); (case hr => exact hr_); (case hp => exact (Reps.one (show Kd.M (Kd.int .i64) _ _ _ (-9223372036854775808) [.int .i64 (-9223372036854775808)] from rfl) (Reps.one (show Kd.M (Kd.int .i64) _ _ _ 9223372036854775807 [.int .i64 9223372036854775807] from rfl) (Reps.none _ _)))); intro v170 L1 m3 hb hg_ hnew_; clear hg_ hnew_; (first | rw [← o9.out] at m3 | (simp only [Int.reduceToNat] at m3; rw [← o9.out] at m3)); have h2 := mk_ (Kd.R_lower (Kd.R_new' m3 (Kd.R_lt (by exact a7.out))) (below_size (by exact HB.out))); replace a7 := mk_ (Kd.R_elder' (by exact a7.out) (Kd.R_base m3) hb); replace a3 := mk_ (IsS152.below (by repeat (first | (with_reducible first | exact a3.out | apply IsS152.alloc | apply IsS152.drewN | apply IsS152.drew | apply IsS152.set_1 | apply IsS152.set_2) | exact a3.out)) hb); replace HB := bp_ HB hb; clear hb m3; obtain ⟨F6, F7, F8⟩ := Kd.R_slice h2.out; subst F8) | ((with_reducible refine gc_ 101 rfl ?_); refine gl_ (some 53) rfl Try.func101 #[.pointer (some ⟨g131, 0, none⟩), .slice F6 s3.length F7] ?_; (with_reducible refine (spec_l1PickInt.calls g131 a6 j5 j6 _ _ s3 C9 F4 F5 w _ ?a4 ?a5 ?h7 ?n5 ?n6 I9.out).mono ?_); (case a4 => repeat (first | (with_reducible first | exact a3.out | apply IsS152.alloc | apply IsS152.drewN | apply IsS152.drew | apply IsS152.set_1 | apply IsS152.set_2) | exact a3.out)); (case a5 => exact HB.out); (case h7 => exact cw_ (rr_ h2)); (case n5 => exact (Kd.R_reads' h2.out).2.1); (case n6 => exact far_slice (IsS152.own_ne a3.out h2.out (by decide))); rintro e L2 ⟨rfl, hi, hb, hk⟩; refine ⟨_, rfl, ?_⟩; replace a7 := mk_ (Kd.R_mono (Kd.R_keep (IsS152.apart (show IsS152 w _ g131 a6 j5 j6 from by repeat (first | (with_reducible first | exact a3.out | apply IsS152.alloc | apply IsS152.drewN | apply IsS152.drew | apply IsS152.set_1 | apply IsS152.set_2) | exact a3.out)) (by exact a7.out) (by decide)) hk (fun _ h => h.2)) (fun _ h => h.1)); replace h2 := mk_ (Kd.R_mono (Kd.R_keep (IsS152.apart (show IsS152 w _ g131 a6 j5 j6 from by repeat (first | (with_reducible first | exact a3.out | apply IsS152.alloc | apply IsS152.drewN | apply IsS152.drew | apply IsS152.set_1 | apply IsS152.set_2) | exact a3.out)) (by exact h2.out) (by decide)) hk (fun _ h => h.2)) (fun _ h => h.1)); replace HB := mk_ (hb); replace a3 := mk_ (hi); (try clear hb); (try clear hb2); (try clear hk); (try clear hi)))
       go_ret2
       exact ⟨_, re_, by (with_reducible repeat (first | apply Kd.R_alloc | apply Kd.R_drewN | apply Kd.R_drew)); exact Kd.R_mono a7.out (fun _ hk => trivial), by repeat (first | (with_reducible first | exact HB.out | apply below_alloc | apply pw_below_drewN | apply below_drew1 | refine below_set ?_ (IsS152.ge a3.out)) | exact HB.out)⟩
      ·replace D6 := Bool.eq_false_iff.mpr D6; subst D6
       have H1 : (some (d0, wrap64 (n9 - 8))) = some (r1, r2) := by rw [if_neg (show ¬ (false = true) by decide)] at H; exact H
       clear H
       have H := H1
       clear H1
       simp only [Option.some.injEq, Prod.mk.injEq] at H
       obtain ⟨rfl, rfl⟩ := H
       go_wp2_with (first | ((with_reducible refine gc_ 82 rfl ?_); refine gl_ (some 47) rfl Try.func82 #[.pointer (some ⟨g131, 0, none⟩), .int .i64 17] ?_; (with_reducible refine (spec_l1Below.calls g131 a6 a9 b0 17 n9 j8 j9 w _ ?a4 ?a5 H7.out).mono ?_); (case a4 => repeat (first | (with_reducible first | exact a3.out | apply IsS152.alloc | apply IsS152.drewN | apply IsS152.drew | apply IsS152.set_1 | apply IsS152.set_2) | exact a3.out)); (case a5 => exact HB.out); rintro e L3 ⟨rfl, hi, hb, hk⟩; refine ⟨_, rfl, ?_⟩; replace a7 := mk_ (Kd.R_mono (Kd.R_keep (IsS152.apart (show IsS152 w _ g131 a6 a9 b0 from by repeat (first | (with_reducible first | exact a3.out | apply IsS152.alloc | apply IsS152.drewN | apply IsS152.drew | apply IsS152.set_1 | apply IsS152.set_2) | exact a3.out)) (by exact a7.out) (by decide)) hk (fun _ h => h.2)) (fun _ h => h.1)); replace HB := mk_ (hb); replace a3 := mk_ (hi); (try clear hb); (try clear hb2); (try clear hk); (try clear hi)) | ((with_reducible refine gc_ 102 rfl ?_); refine gl_ (some 50) rfl Try.func102 #[.pointer (some ⟨g131, 0, none⟩), .int .i64 40] ?_; (with_reducible refine (spec_l1Once.calls g131 a6 j8 j9 40 false j5 j6 w _ ?a4 ?a5 H8.out).mono ?_); (case a4 => repeat (first | (with_reducible first | exact a3.out | apply IsS152.alloc | apply IsS152.drewN | apply IsS152.drew | apply IsS152.set_1 | apply IsS152.set_2) | exact a3.out)); (case a5 => exact HB.out); rintro e L4 ⟨rfl, hi, hb, hk⟩; refine ⟨_, rfl, ?_⟩; replace a7 := mk_ (Kd.R_mono (Kd.R_keep (IsS152.apart (show IsS152 w _ g131 a6 j8 j9 from by repeat (first | (with_reducible first | exact a3.out | apply IsS152.alloc | apply IsS152.drewN | apply IsS152.drew | apply IsS152.set_1 | apply IsS152.set_2) | exact a3.out)) (by exact a7.out) (by decide)) hk (fun _ h => h.2)) (fun _ h => h.1)); replace HB := mk_ (hb); replace a3 := mk_ (hi); (try clear hb); (try clear hb2); (try clear hk); (try clear hi)))
       go_ret2
       exact ⟨_, re_, by (with_reducible repeat (first | apply Kd.R_alloc | apply Kd.R_drewN | apply Kd.R_drew)); exact a7.out, by repeat (first | (with_reducible first | exact HB.out | apply below_alloc | apply pw_below_drewN | apply below_drew1 | refine below_set ?_ (IsS152.ge a3.out)) | exact HB.out)⟩

/-! ### impl_in: function 76 -/
def impl_in.f (a0 : Int) (a1 : Int) (a2 : Int) : Option (Bool) := if a0 ≥ a1 then (some (decide (a0 ≤ a2))) else (some false)
set_option maxHeartbeats 8000000 in
set_option maxRecDepth 100000 in
theorem impl_in.calls (a0 : Int) (a1 : Int) (a2 : Int) (r : Bool) (w : World) (h : impl_in.f a0 a1 a2 = some r) :
  Calls Try.prog 76 #[.int .i64 a0, .int .i64 a1, .int .i64 a2] w fun e w' => e = .returned (.bool r) ∧ Drawn0 w w' := by
 have H : (if a0 ≥ a1 then (some (decide (a0 ≤ a2))) else (some false)) = some r := h
 clear h; by_cases c4 : a0 ≥ a1
 ·rw [if_pos c4] at H; have l6 : decide (a1 ≤ a0) = true := decide_eq_true c4; clear c4; obtain rfl := Option.some.inj H
  go_enter Try.func76, Try.ntmps76
  go_wp2; go_ret
  exact ⟨by first | rfl | (simp; done) | (simp [*]; done), by repeat (first | exact Drawn0.refl _ | apply Drawn0.step)⟩
 ·rw [if_neg c4] at H; have l6 : decide (a1 ≤ a0) = false := decide_eq_false c4; clear c4; obtain rfl := Option.some.inj H
  go_enter Try.func76, Try.ntmps76
  go_wp2; go_ret
  exact ⟨by first | rfl | (simp; done) | (simp [*]; done), by repeat (first | exact Drawn0.refl _ | apply Drawn0.step)⟩

end Go.Proofs.Ytnphbpkpjinddaa.QFnCycles
-- squeezed
