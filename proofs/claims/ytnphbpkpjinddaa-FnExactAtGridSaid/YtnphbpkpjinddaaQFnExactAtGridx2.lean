/- Lean functions that tell what the Go functions used by one law answer, and for each a proof that the Go code comes to just these answers; no condition. Printed by this session's own program over the kit's printer. -/
import Derived.Test.YtnphbpkpjinddaaWSq
import Derived.Test.YtnphbpkpjinddaaQFnExactAtGridx0
import Derived.Test.YtnphbpkpjinddaaQFnExactAtGridx1
namespace Go.Proofs.Ytnphbpkpjinddaa.QFnExactAtGrid
open Go.RowKit Go.Proofs.YtnphbpkpjinddaaW.PrintWords Go.Proofs.YtnphbpkpjinddaaW.PrintLast Go.Proofs.YtnphbpkpjinddaaW.PrintMore
attribute [local go_sem] max2_int min2_int max_two min_two max_three min_three max_four min_four   -- for this text's walks alone
attribute [local go_sem high] go_eql go_neq go_lss go_leq go_gtr go_geq go_store   -- for this text's walks alone
set_option linter.unusedVariables false
set_option linter.unusedSimpArgs false

/-! ### spec_l1Rise: function 118 -/
def spec_l1Rise.l0 : Nat → List Int → Int → Option (Bool)
 | 0, _, _ => none
 | k + 1, x0, x3 => if x3 < (x0.length : Int) then (if 0 ≤ (wrap64 (x3 - 1)) then (if (wrap64 (x3 - 1)) < (x0.length : Int) then (if 0 ≤ x3 then (if (rd x0 (wrap64 (x3 - 1))) ≥ (rd x0 x3) then (some false) else (spec_l1Rise.l0 k x0 (wrap64 (x3 + 1)))) else (none)) else (none)) else (none)) else (some true)
def spec_l1Rise.f (k : Nat) (l0 : List Int) : Option (Bool) := spec_l1Rise.l0 k l0 1
theorem spec_l1Rise.mono_l : ∀ k, (∀ y0 y1, LeO (spec_l1Rise.l0 k y0 y1) (spec_l1Rise.l0 (k + 1) y0 y1))
 | 0 => fun _ _ r h => by simp [spec_l1Rise.l0] at h
 | k + 1 => by
  have g7 := spec_l1Rise.mono_l k
  ·intro y0 y1
   unfold spec_l1Rise.l0
   repeat' first
   | (with_reducible exact g7 _ _)
   | (with_reducible exact LeO.refl _)
   | (with_reducible exact LeO.none _)
   | (with_reducible refine LeO.ite ?_ ?_)
   | (with_reducible refine LeO.bind ?_ (fun _ => ?_))
   | exact g7 _ _
   | exact LeO.none _
   | refine LeO.ite ?_ ?_
   | refine LeO.bind ?_ (fun _ => ?_)
theorem spec_l1Rise.mono : ∀ a0 k, LeO (spec_l1Rise.f k a0) (spec_l1Rise.f (k + 1) a0) := by
 intro a0 k
 have g7 := spec_l1Rise.mono_l k
 unfold spec_l1Rise.f
 repeat' first
   | (with_reducible exact g7 _ _)
   | (with_reducible exact LeO.refl _)
   | (with_reducible exact LeO.none _)
   | (with_reducible refine LeO.ite ?_ ?_)
   | (with_reducible refine LeO.bind ?_ (fun _ => ?_))
   | exact g7 _ _
   | exact LeO.none _
   | refine LeO.ite ?_ ?_
   | refine LeO.bind ?_ (fun _ => ?_)
set_option maxHeartbeats 8000000 in
set_option maxRecDepth 100000 in
theorem spec_l1Rise.calls (k : Nat) (A0 : Option Addr) (c0 : Nat) (l0 : List Int) (r : Bool) (w : World) (hr0 : Kd.C (Kd.int .i64) w A0 l0.length l0) (hc0 : l0.length ≤ c0) (h : spec_l1Rise.f k l0 = some r) :
  Calls Try.prog 118 #[.slice A0 l0.length c0] w fun e w' => e = .returned (.bool r) ∧ Drawn0 w w' := by
 have n1 := mk_ hr0; have C7 := mk_ hc0; clear hr0 hc0
 have H : (spec_l1Rise.l0 k l0 1) = some r := h
 clear h
 have H' := mk_ H
 clear H
 go_enter Try.func118, Try.ntmps118
 go_wp2
 repeat (go_quiet (fail); try go_wp2)
 go_loopg [3] k (fun kq v3 w' => ∃ (b3 : Int), v3 = .int .i64 b3 ∧ Aside0 (spec_l1Rise.l0 kq l0 b3 = some r) ∧ Aside0 (kq ≤ k) ∧ Drawn0 w w')
 case atStart => exact ⟨(1), rf_, H', ⟨Nat.le_refl _⟩, by repeat (first | exact Drawn0.refl _ | apply Drawn0.step)⟩
 case round =>
  clear H'
  obtain ⟨b3, rfl, HA, B4, ⟨m1, rfl⟩⟩ := hrel
  cases gk with
  | zero => exact absurd HA.out (by simp [spec_l1Rise.l0])
  | succ k1 =>
   have H := HA.out; clear HA
   simp only [spec_l1Rise.l0] at H
   by_cases c2 : b3 < (l0.length : Int)
   ·rw [if_pos c2] at H; have B1 : decide (b3 < (l0.length : Int)) = true := decide_eq_true c2; clear c2
    obtain ⟨d2, j5⟩ : ∃ j_ : Int, (wrap64 (b3 - 1)) = j_ := ⟨_, rfl⟩
    replace H : (if 0 ≤ (d2) then (if (d2) < (l0.length : Int) then (if 0 ≤ b3 then (if (rd l0 (d2)) ≥ (rd l0 b3) then (some false) else (spec_l1Rise.l0 k1 l0 (wrap64 (b3 + 1)))) else (none)) else (none)) else (none)) = some r := by first | (rw [j5] at H; exact H) | (simp only [j5] at H ⊢; exact H)
    have hji3w : (IntKind.i64.wrap (b3 - 1)) = d2 := (i64_w _).trans j5
    by_cases c4 : 0 ≤ (d2)
    ·rw [if_pos c4] at H; have C2 : decide (0 ≤ (d2)) = true := decide_eq_true c4; clear c4; by_cases c5 : (d2) < (l0.length : Int)
     ·rw [if_pos c5] at H; have C3 : decide ((d2) < (l0.length : Int)) = true := decide_eq_true c5; clear c5; by_cases c6 : 0 ≤ b3
      ·rw [if_pos c6] at H; have C4 : decide (0 ≤ b3) = true := decide_eq_true c6; clear c6; by_cases c7 : (rd l0 (d2)) ≥ (rd l0 b3)
       ·rw [if_pos c7] at H; have B2 : decide ((rd l0 b3) ≤ (rd l0 (d2))) = true := decide_eq_true c7; clear c7; obtain rfl := Option.some.inj H
        have d5 : 0 ≤ ((d2) : Int) := od_
        have d6 : (d2) < (l0.length : Int) := od_
        obtain ⟨g9, l1, j6⟩ := Kd.at_int n1.out (d2) d5 d6; cases l1; replace d5 := eq_true d5; replace d6 := eq_true d6
        have d7 : 0 ≤ (b3 : Int) := od_
        have d8 : b3 < (l0.length : Int) := od_
        obtain ⟨h2, l2, j7⟩ := Kd.at_int n1.out b3 d7 d8; obtain rfl : g9 = h2 := (by injection l2); replace d7 := eq_true d7; replace d8 := eq_true d8; go_wp2
        repeat (go_quiet (fail); try go_wp2)
        go_ret
        exact ⟨by first | rfl | (simp; done) | (simp only [← j5] <;> (first | rfl | simp)) | (simp [*]; done), by repeat (first | exact Drawn0.refl _ | apply Drawn0.step)⟩
       ·rw [if_neg c7] at H; have B2 : decide ((rd l0 b3) ≤ (rd l0 (d2))) = false := decide_eq_false c7; clear c7
        have H' := mk_ H
        clear H
        have d5 : 0 ≤ ((d2) : Int) := od_
        have d6 : (d2) < (l0.length : Int) := od_
        obtain ⟨g9, l1, j6⟩ := Kd.at_int n1.out (d2) d5 d6; cases l1; replace d5 := eq_true d5; replace d6 := eq_true d6
        have d7 : 0 ≤ (b3 : Int) := od_
        have d8 : b3 < (l0.length : Int) := od_
        obtain ⟨h2, l2, j7⟩ := Kd.at_int n1.out b3 d7 d8; obtain rfl : g9 = h2 := (by injection l2); replace d7 := eq_true d7; replace d8 := eq_true d8; go_wp2
        repeat (go_quiet (fail); try go_wp2)
        go_roundg k1
        case measure => have := B4.out; omega
        case rel => exact ⟨(wrap64 (b3 + 1)), rf_, H', ⟨by have := B4.out; omega⟩, by repeat (first | exact Drawn0.refl _ | apply Drawn0.step)⟩
      ·rw [if_neg c6] at H
       exact absurd H (by simp)
     ·rw [if_neg c5] at H
      exact absurd H (by simp)
    ·rw [if_neg c4] at H
     exact absurd H (by simp)
   ·rw [if_neg c2] at H; have B1 : decide (b3 < (l0.length : Int)) = false := decide_eq_false c2; clear c2; obtain rfl := Option.some.inj H; go_wp2
    repeat (go_quiet (fail); try go_wp2)
    go_ret
    exact ⟨by first | rfl | (simp; done) | (simp [*]; done), by repeat (first | exact Drawn0.refl _ | apply Drawn0.step)⟩

/-! ### spec_GridOk: function 96 -/
mutual
def spec_GridOk.j0 : Nat → Bool → List Int → List Int → List (List Int) → Option (Bool)
 | 0, _, _, _, _ => none
 | k + 1, C5, c3, d1, b8 => if C5 = true then (some false) else (spec_GridOk.l0 k 0 c3 d1 b8)
def spec_GridOk.l0 : Nat → Int → List Int → List Int → List (List Int) → Option (Bool)
 | 0, _, _, _, _ => none
 | k + 1, x3, c3, d1, b8 => if x3 < (b8.length : Int) then (if 0 ≤ x3 then (if ((rd_L1 b8 x3).length : Int) = (c3.length : Int) then ((spec_l1All.f k (rd_L1 b8 x3) (-1000) 1000).bind fun l3 => (if l3 = true then (spec_GridOk.l0 k (wrap64 (x3 + 1)) c3 d1 b8) else (some false))) else (some false)) else (none)) else (some true)
end
def spec_GridOk.f (k : Nat) (l0_0 : List Int) (l0_1 : List Int) (l0_2 : List (List Int)) : Option (Bool) := (spec_l1In.f (l0_0.length : Int) 2 20).bind fun h3 => (if h3 = true then ((spec_l1In.f (l0_1.length : Int) 2 20).bind fun h4 => (if h4 = true then ((spec_l1Rise.f k l0_0).bind fun h5 => (if h5 = true then ((spec_l1Rise.f k l0_1).bind fun h6 => (if h6 = true then ((spec_l1All.f k l0_0 (-1000) 1000).bind fun h7 => (if h7 = true then ((spec_l1All.f k l0_1 (-1000) 1000).bind fun h8 => (if h8 = true then (spec_GridOk.j0 k ((l0_2.length : Int) != (l0_1.length : Int)) l0_0 l0_1 l0_2) else (spec_GridOk.j0 k true l0_0 l0_1 l0_2))) else (spec_GridOk.j0 k true l0_0 l0_1 l0_2))) else (spec_GridOk.j0 k true l0_0 l0_1 l0_2))) else (spec_GridOk.j0 k true l0_0 l0_1 l0_2))) else (spec_GridOk.j0 k true l0_0 l0_1 l0_2))) else (spec_GridOk.j0 k true l0_0 l0_1 l0_2))
theorem spec_GridOk.mono_l : ∀ k, (∀ y0 y1 y2 y3, LeO (spec_GridOk.j0 k y0 y1 y2 y3) (spec_GridOk.j0 (k + 1) y0 y1 y2 y3)) ∧ (∀ y0 y1 y2 y3, LeO (spec_GridOk.l0 k y0 y1 y2 y3) (spec_GridOk.l0 (k + 1) y0 y1 y2 y3))
 | 0 => ⟨fun _ _ _ _ r h => by simp [spec_GridOk.j0] at h, fun _ _ _ _ r h => by simp [spec_GridOk.l0] at h⟩
 | k + 1 => by
  obtain ⟨g7, l4⟩ := spec_GridOk.mono_l k
  refine ⟨?_, ?_⟩
  ·intro y0 y1 y2 y3
   unfold spec_GridOk.j0
   repeat' first
   | (with_reducible exact g7 _ _ _ _)
   | (with_reducible exact l4 _ _ _ _)
   | (with_reducible exact spec_l1All.mono _ _ _ _)
   | (with_reducible exact spec_l1Rise.mono _ _)
   | (with_reducible exact LeO.refl _)
   | (with_reducible exact LeO.none _)
   | (with_reducible refine LeO.ite ?_ ?_)
   | (with_reducible refine LeO.bind ?_ (fun _ => ?_))
   | exact g7 _ _ _ _
   | exact l4 _ _ _ _
   | exact spec_l1All.mono _ _ _ _
   | exact spec_l1Rise.mono _ _
   | exact LeO.none _
   | refine LeO.ite ?_ ?_
   | refine LeO.bind ?_ (fun _ => ?_)
  ·intro y0 y1 y2 y3
   unfold spec_GridOk.l0
   repeat' first
   | (with_reducible exact g7 _ _ _ _)
   | (with_reducible exact l4 _ _ _ _)
   | (with_reducible exact spec_l1All.mono _ _ _ _)
   | (with_reducible exact spec_l1Rise.mono _ _)
   | (with_reducible exact LeO.refl _)
   | (with_reducible exact LeO.none _)
   | (with_reducible refine LeO.ite ?_ ?_)
   | (with_reducible refine LeO.bind ?_ (fun _ => ?_))
   | exact g7 _ _ _ _
   | exact l4 _ _ _ _
   | exact spec_l1All.mono _ _ _ _
   | exact spec_l1Rise.mono _ _
   | exact LeO.none _
   | refine LeO.ite ?_ ?_
   | refine LeO.bind ?_ (fun _ => ?_)
theorem spec_GridOk.mono : ∀ a0 a1 a2 k, LeO (spec_GridOk.f k a0 a1 a2) (spec_GridOk.f (k + 1) a0 a1 a2) := by
 intro a0 a1 a2 k
 obtain ⟨g7, l4⟩ := spec_GridOk.mono_l k
 unfold spec_GridOk.f
 repeat' first
   | (with_reducible exact g7 _ _ _ _)
   | (with_reducible exact l4 _ _ _ _)
   | (with_reducible exact spec_l1All.mono _ _ _ _)
   | (with_reducible exact spec_l1Rise.mono _ _)
   | (with_reducible exact LeO.refl _)
   | (with_reducible exact LeO.none _)
   | (with_reducible refine LeO.ite ?_ ?_)
   | (with_reducible refine LeO.bind ?_ (fun _ => ?_))
   | exact g7 _ _ _ _
   | exact l4 _ _ _ _
   | exact spec_l1All.mono _ _ _ _
   | exact spec_l1Rise.mono _ _
   | exact LeO.none _
   | refine LeO.ite ?_ ?_
   | refine LeO.bind ?_ (fun _ => ?_)
set_option maxHeartbeats 8000000 in
set_option maxRecDepth 100000 in
theorem spec_GridOk.calls (k : Nat) (A0_0 : Option Addr) (c0_0 : Nat) (l0_0 : List Int) (A0_1 : Option Addr) (c0_1 : Nat) (l0_1 : List Int) (A0_2 : Option Addr) (c0_2 : Nat) (l0_2 : List (List Int)) (r : Bool) (w : World) (hr0_0 : Kd.C (Kd.int .i64) w A0_0 l0_0.length l0_0) (hc0_0 : l0_0.length ≤ c0_0) (hr0_1 : Kd.C (Kd.int .i64) w A0_1 l0_1.length l0_1) (hc0_1 : l0_1.length ≤ c0_1) (hr0_2 : Kd.C (Kd.slice 3 (Kd.int .i64)) w A0_2 l0_2.length l0_2) (hc0_2 : l0_2.length ≤ c0_2) (h : spec_GridOk.f k l0_0 l0_1 l0_2 = some r) :
  Calls Try.prog 96 #[.agg #[.slice A0_0 l0_0.length c0_0, .slice A0_1 l0_1.length c0_1, .slice A0_2 l0_2.length c0_2]] w fun e w' => e = .returned (.bool r) ∧ Below w.heap.size w w' := by
 have C6 := Try.underlying75
 have a7 := mk_ hr0_0; have a8 := mk_ hc0_0; clear hr0_0 hc0_0; have b0 := mk_ hr0_1; have b1 := mk_ hc0_1; clear hr0_1 hc0_1; have d3 := mk_ hr0_2; have B5 := mk_ hc0_2; clear hr0_2 hc0_2; have HB := mk_ (Below.refl w.heap.size w)
 have H : ((spec_l1In.f (l0_0.length : Int) 2 20).bind fun h3 => (if h3 = true then ((spec_l1In.f (l0_1.length : Int) 2 20).bind fun h4 => (if h4 = true then ((spec_l1Rise.f k l0_0).bind fun h5 => (if h5 = true then ((spec_l1Rise.f k l0_1).bind fun h6 => (if h6 = true then ((spec_l1All.f k l0_0 (-1000) 1000).bind fun h7 => (if h7 = true then ((spec_l1All.f k l0_1 (-1000) 1000).bind fun h8 => (if h8 = true then (spec_GridOk.j0 k ((l0_2.length : Int) != (l0_1.length : Int)) l0_0 l0_1 l0_2) else (spec_GridOk.j0 k true l0_0 l0_1 l0_2))) else (spec_GridOk.j0 k true l0_0 l0_1 l0_2))) else (spec_GridOk.j0 k true l0_0 l0_1 l0_2))) else (spec_GridOk.j0 k true l0_0 l0_1 l0_2))) else (spec_GridOk.j0 k true l0_0 l0_1 l0_2))) else (spec_GridOk.j0 k true l0_0 l0_1 l0_2))) = some r := h
 clear h; have B3 := mk_ H; clear H
 go_enter Try.func96, Try.ntmps96
 go_upto_region 1 with (first | ((with_reducible refine gd_ 1 rfl ?_); (try (refine gate_guard (by rfl) ?_; dsimp only)); refine box_event ?hg (N := 1) ?hd (cs := #[.slice A0_0 l0_0.length c0_0, .slice A0_1 l0_1.length c0_1, .slice A0_2 l0_2.length c0_2]) (t := 75) ?hr ?_; (case hd => rfl); (case hg => rfl); (case hr => exact hr_); intro g2 hg w3 hbox hb; have a5 := mk_ (hbox); have d4 := gk_ hg HB; replace HB := hk_ HB hb; have j9 := d4; clear hb hbox hg))
 repeat (go_quiet (first | ((with_reducible refine gd_ 1 rfl ?_); (try (refine gate_guard (by rfl) ?_; dsimp only)); refine box_event ?hg (N := 1) ?hd (cs := #[.slice A0_0 l0_0.length c0_0, .slice A0_1 l0_1.length c0_1, .slice A0_2 l0_2.length c0_2]) (t := 75) ?hr ?_; (case hd => rfl); (case hg => rfl); (case hr => exact hr_); intro g2 hg w3 hbox hb; have a5 := mk_ (hbox); have d4 := gk_ hg HB; replace HB := hk_ HB hb; have j9 := d4; clear hb hbox hg)); go_upto_region 1 with (first | ((with_reducible refine gd_ 1 rfl ?_); (try (refine gate_guard (by rfl) ?_; dsimp only)); refine box_event ?hg (N := 1) ?hd (cs := #[.slice A0_0 l0_0.length c0_0, .slice A0_1 l0_1.length c0_1, .slice A0_2 l0_2.length c0_2]) (t := 75) ?hr ?_; (case hd => rfl); (case hg => rfl); (case hr => exact hr_); intro g2 hg w3 hbox hb; have a5 := mk_ (hbox); have d4 := gk_ hg HB; replace HB := hk_ HB hb; have j9 := d4; clear hb hbox hg)))
 (try simp only [Act.put, List.setIfInBounds_toArray, List.set_cons_zero, List.set_cons_succ])
 go_cut [48] (fun v48 wc => ∃ (kq : Nat) (g3 : Bool), v48 = .bool g3 ∧ Aside0 (spec_GridOk.j0 kq g3 l0_0 l0_1 l0_2 = some r) ∧ Aside0 (kq ≤ k) ∧ Aside0 (wc.heap[g2]? = some (.cells #[(.slice A0_0 l0_0.length c0_0), (.slice A0_1 l0_1.length c0_1), (.slice A0_2 l0_2.length c0_2)] 75 (0, 0))) ∧ Aside0 (Below w.heap.size w wc))
 case first =>
  have H := B3.out; clear B3; replace H := Option.bind_eq_some_iff.mp H; obtain ⟨h3, B6, H⟩ := H; (try dsimp only at H); have A4 := mk_ B6; clear B6; by_cases c5 : h3 = true
  ·subst c5; rw [if_pos rfl] at H
   replace H := Option.bind_eq_some_iff.mp H; obtain ⟨h4, B7, H⟩ := H
   (try dsimp only at H); have A6 := mk_ B7; clear B7
   by_cases c7 : h4 = true
   ·subst c7; rw [if_pos rfl] at H
    replace H := Option.bind_eq_some_iff.mp H; obtain ⟨h5, B8, H⟩ := H
    (try dsimp only at H); have A8 := mk_ B8; clear B8
    by_cases c9 : h5 = true
    ·subst c9; rw [if_pos rfl] at H
     replace H := Option.bind_eq_some_iff.mp H; obtain ⟨h6, m2, H⟩ := H
     (try dsimp only at H); have g8 := mk_ m2; clear m2
     by_cases n2 : h6 = true
     ·subst n2; rw [if_pos rfl] at H
      replace H := Option.bind_eq_some_iff.mp H; obtain ⟨h7, m3, H⟩ := H
      (try dsimp only at H); have j8 := mk_ m3; clear m3
      by_cases n3 : h7 = true
      ·subst n3; rw [if_pos rfl] at H
       replace H := Option.bind_eq_some_iff.mp H; obtain ⟨h8, m4, H⟩ := H
       (try dsimp only at H); have l8 := mk_ m4; clear m4
       by_cases n4 : h8 = true
       ·subst n4; rw [if_pos rfl] at H
        have H' := mk_ H
        clear H; have n5 := bc0_ a5; have n6 := bc1_ a5; have n7 := bc2_ a5; have n8 := bf_ a5 0; have n9 := bf_ a5 1; have o0 := bf_ a5 2
        go_wp2_with (first | (go_at_call 70; (with_reducible refine (spec_l1In.calls (l0_0.length : Int) 2 20 true _ A4.out).mono ?_); rintro e w' ⟨rfl, ⟨nd, rfl⟩⟩; (try first | exact ⟨rfl, _, World.drewN_drewN _ _ _⟩ | exact ⟨rfl, _, Eq.trans (World.drewN_drewN _ _ _) (congrArg (World.drewN _) (Nat.add_assoc _ _ _))⟩)) | (go_at_call 70; (with_reducible refine (spec_l1In.calls (l0_1.length : Int) 2 20 true _ A6.out).mono ?_); rintro e w' ⟨rfl, ⟨nd, rfl⟩⟩; (try first | exact ⟨rfl, _, World.drewN_drewN _ _ _⟩ | exact ⟨rfl, _, Eq.trans (World.drewN_drewN _ _ _) (congrArg (World.drewN _) (Nat.add_assoc _ _ _))⟩)) | (go_at_call 118; (with_reducible refine (spec_l1Rise.calls k _ _ l0_0 true _ ?a3 ?a4 A8.out).mono ?_); (case a3 => repeat (first | exact (Kd.C_below a7.out (hw_ HB)) | (with_reducible refine Kd.C_alloc ?_ _) | (with_reducible refine Kd.C_drewN ?_ _) | (with_reducible refine Kd.C_drew ?_))); (case a4 => exact a8.out); rintro e w' ⟨rfl, ⟨nd, rfl⟩⟩; (try first | exact ⟨rfl, _, World.drewN_drewN _ _ _⟩ | exact ⟨rfl, _, Eq.trans (World.drewN_drewN _ _ _) (congrArg (World.drewN _) (Nat.add_assoc _ _ _))⟩)) | (go_at_call 118; (with_reducible refine (spec_l1Rise.calls k _ _ l0_1 true _ ?a3 ?a4 g8.out).mono ?_); (case a3 => repeat (first | exact (Kd.C_below b0.out (hw_ HB)) | (with_reducible refine Kd.C_alloc ?_ _) | (with_reducible refine Kd.C_drewN ?_ _) | (with_reducible refine Kd.C_drew ?_))); (case a4 => exact b1.out); rintro e w' ⟨rfl, ⟨nd, rfl⟩⟩; (try first | exact ⟨rfl, _, World.drewN_drewN _ _ _⟩ | exact ⟨rfl, _, Eq.trans (World.drewN_drewN _ _ _) (congrArg (World.drewN _) (Nat.add_assoc _ _ _))⟩)) | (go_at_call 103; (with_reducible refine (spec_l1All.calls k _ _ l0_0 (-1000) 1000 true _ ?a3 ?a4 j8.out).mono ?_); (case a3 => repeat (first | exact (Kd.C_below a7.out (hw_ HB)) | (with_reducible refine Kd.C_alloc ?_ _) | (with_reducible refine Kd.C_drewN ?_ _) | (with_reducible refine Kd.C_drew ?_))); (case a4 => exact a8.out); rintro e w' ⟨rfl, ⟨nd, rfl⟩⟩; (try first | exact ⟨rfl, _, World.drewN_drewN _ _ _⟩ | exact ⟨rfl, _, Eq.trans (World.drewN_drewN _ _ _) (congrArg (World.drewN _) (Nat.add_assoc _ _ _))⟩)) | (go_at_call 103; (with_reducible refine (spec_l1All.calls k _ _ l0_1 (-1000) 1000 true _ ?a3 ?a4 l8.out).mono ?_); (case a3 => repeat (first | exact (Kd.C_below b0.out (hw_ HB)) | (with_reducible refine Kd.C_alloc ?_ _) | (with_reducible refine Kd.C_drewN ?_ _) | (with_reducible refine Kd.C_drew ?_))); (case a4 => exact b1.out); rintro e w' ⟨rfl, ⟨nd, rfl⟩⟩; (try first | exact ⟨rfl, _, World.drewN_drewN _ _ _⟩ | exact ⟨rfl, _, Eq.trans (World.drewN_drewN _ _ _) (congrArg (World.drewN _) (Nat.add_assoc _ _ _))⟩)))
        repeat (go_quiet (first | (go_at_call 70; (with_reducible refine (spec_l1In.calls (l0_0.length : Int) 2 20 true _ A4.out).mono ?_); rintro e w' ⟨rfl, ⟨nd, rfl⟩⟩; (try first | exact ⟨rfl, _, World.drewN_drewN _ _ _⟩ | exact ⟨rfl, _, Eq.trans (World.drewN_drewN _ _ _) (congrArg (World.drewN _) (Nat.add_assoc _ _ _))⟩)) | (go_at_call 70; (with_reducible refine (spec_l1In.calls (l0_1.length : Int) 2 20 true _ A6.out).mono ?_); rintro e w' ⟨rfl, ⟨nd, rfl⟩⟩; (try first | exact ⟨rfl, _, World.drewN_drewN _ _ _⟩ | exact ⟨rfl, _, Eq.trans (World.drewN_drewN _ _ _) (congrArg (World.drewN _) (Nat.add_assoc _ _ _))⟩)) | (go_at_call 118; (with_reducible refine (spec_l1Rise.calls k _ _ l0_0 true _ ?a3 ?a4 A8.out).mono ?_); (case a3 => repeat (first | exact (Kd.C_below a7.out (hw_ HB)) | (with_reducible refine Kd.C_alloc ?_ _) | (with_reducible refine Kd.C_drewN ?_ _) | (with_reducible refine Kd.C_drew ?_))); (case a4 => exact a8.out); rintro e w' ⟨rfl, ⟨nd, rfl⟩⟩; (try first | exact ⟨rfl, _, World.drewN_drewN _ _ _⟩ | exact ⟨rfl, _, Eq.trans (World.drewN_drewN _ _ _) (congrArg (World.drewN _) (Nat.add_assoc _ _ _))⟩)) | (go_at_call 118; (with_reducible refine (spec_l1Rise.calls k _ _ l0_1 true _ ?a3 ?a4 g8.out).mono ?_); (case a3 => repeat (first | exact (Kd.C_below b0.out (hw_ HB)) | (with_reducible refine Kd.C_alloc ?_ _) | (with_reducible refine Kd.C_drewN ?_ _) | (with_reducible refine Kd.C_drew ?_))); (case a4 => exact b1.out); rintro e w' ⟨rfl, ⟨nd, rfl⟩⟩; (try first | exact ⟨rfl, _, World.drewN_drewN _ _ _⟩ | exact ⟨rfl, _, Eq.trans (World.drewN_drewN _ _ _) (congrArg (World.drewN _) (Nat.add_assoc _ _ _))⟩)) | (go_at_call 103; (with_reducible refine (spec_l1All.calls k _ _ l0_0 (-1000) 1000 true _ ?a3 ?a4 j8.out).mono ?_); (case a3 => repeat (first | exact (Kd.C_below a7.out (hw_ HB)) | (with_reducible refine Kd.C_alloc ?_ _) | (with_reducible refine Kd.C_drewN ?_ _) | (with_reducible refine Kd.C_drew ?_))); (case a4 => exact a8.out); rintro e w' ⟨rfl, ⟨nd, rfl⟩⟩; (try first | exact ⟨rfl, _, World.drewN_drewN _ _ _⟩ | exact ⟨rfl, _, Eq.trans (World.drewN_drewN _ _ _) (congrArg (World.drewN _) (Nat.add_assoc _ _ _))⟩)) | (go_at_call 103; (with_reducible refine (spec_l1All.calls k _ _ l0_1 (-1000) 1000 true _ ?a3 ?a4 l8.out).mono ?_); (case a3 => repeat (first | exact (Kd.C_below b0.out (hw_ HB)) | (with_reducible refine Kd.C_alloc ?_ _) | (with_reducible refine Kd.C_drewN ?_ _) | (with_reducible refine Kd.C_drew ?_))); (case a4 => exact b1.out); rintro e w' ⟨rfl, ⟨nd, rfl⟩⟩; (try first | exact ⟨rfl, _, World.drewN_drewN _ _ _⟩ | exact ⟨rfl, _, Eq.trans (World.drewN_drewN _ _ _) (congrArg (World.drewN _) (Nat.add_assoc _ _ _))⟩))); try go_wp2_with (first | (go_at_call 70; (with_reducible refine (spec_l1In.calls (l0_0.length : Int) 2 20 true _ A4.out).mono ?_); rintro e w' ⟨rfl, ⟨nd, rfl⟩⟩; (try first | exact ⟨rfl, _, World.drewN_drewN _ _ _⟩ | exact ⟨rfl, _, Eq.trans (World.drewN_drewN _ _ _) (congrArg (World.drewN _) (Nat.add_assoc _ _ _))⟩)) | (go_at_call 70; (with_reducible refine (spec_l1In.calls (l0_1.length : Int) 2 20 true _ A6.out).mono ?_); rintro e w' ⟨rfl, ⟨nd, rfl⟩⟩; (try first | exact ⟨rfl, _, World.drewN_drewN _ _ _⟩ | exact ⟨rfl, _, Eq.trans (World.drewN_drewN _ _ _) (congrArg (World.drewN _) (Nat.add_assoc _ _ _))⟩)) | (go_at_call 118; (with_reducible refine (spec_l1Rise.calls k _ _ l0_0 true _ ?a3 ?a4 A8.out).mono ?_); (case a3 => repeat (first | exact (Kd.C_below a7.out (hw_ HB)) | (with_reducible refine Kd.C_alloc ?_ _) | (with_reducible refine Kd.C_drewN ?_ _) | (with_reducible refine Kd.C_drew ?_))); (case a4 => exact a8.out); rintro e w' ⟨rfl, ⟨nd, rfl⟩⟩; (try first | exact ⟨rfl, _, World.drewN_drewN _ _ _⟩ | exact ⟨rfl, _, Eq.trans (World.drewN_drewN _ _ _) (congrArg (World.drewN _) (Nat.add_assoc _ _ _))⟩)) | (go_at_call 118; (with_reducible refine (spec_l1Rise.calls k _ _ l0_1 true _ ?a3 ?a4 g8.out).mono ?_); (case a3 => repeat (first | exact (Kd.C_below b0.out (hw_ HB)) | (with_reducible refine Kd.C_alloc ?_ _) | (with_reducible refine Kd.C_drewN ?_ _) | (with_reducible refine Kd.C_drew ?_))); (case a4 => exact b1.out); rintro e w' ⟨rfl, ⟨nd, rfl⟩⟩; (try first | exact ⟨rfl, _, World.drewN_drewN _ _ _⟩ | exact ⟨rfl, _, Eq.trans (World.drewN_drewN _ _ _) (congrArg (World.drewN _) (Nat.add_assoc _ _ _))⟩)) | (go_at_call 103; (with_reducible refine (spec_l1All.calls k _ _ l0_0 (-1000) 1000 true _ ?a3 ?a4 j8.out).mono ?_); (case a3 => repeat (first | exact (Kd.C_below a7.out (hw_ HB)) | (with_reducible refine Kd.C_alloc ?_ _) | (with_reducible refine Kd.C_drewN ?_ _) | (with_reducible refine Kd.C_drew ?_))); (case a4 => exact a8.out); rintro e w' ⟨rfl, ⟨nd, rfl⟩⟩; (try first | exact ⟨rfl, _, World.drewN_drewN _ _ _⟩ | exact ⟨rfl, _, Eq.trans (World.drewN_drewN _ _ _) (congrArg (World.drewN _) (Nat.add_assoc _ _ _))⟩)) | (go_at_call 103; (with_reducible refine (spec_l1All.calls k _ _ l0_1 (-1000) 1000 true _ ?a3 ?a4 l8.out).mono ?_); (case a3 => repeat (first | exact (Kd.C_below b0.out (hw_ HB)) | (with_reducible refine Kd.C_alloc ?_ _) | (with_reducible refine Kd.C_drewN ?_ _) | (with_reducible refine Kd.C_drew ?_))); (case a4 => exact b1.out); rintro e w' ⟨rfl, ⟨nd, rfl⟩⟩; (try first | exact ⟨rfl, _, World.drewN_drewN _ _ _⟩ | exact ⟨rfl, _, Eq.trans (World.drewN_drewN _ _ _) (congrArg (World.drewN _) (Nat.add_assoc _ _ _))⟩))))
        go_meet
        case rel => exact ⟨_, (((l0_2.length : Int) != (l0_1.length : Int))), rf_, H', ⟨by first | omega | exact Nat.le_refl _⟩, bw_ a5, ⟨hw_ HB⟩⟩
       ·replace n4 := Bool.eq_false_iff.mpr n4; subst n4; rw [if_neg (show ¬ (false = true) by decide)] at H
        have H' := mk_ H
        clear H; have o1 := bc0_ a5; have o2 := bc1_ a5; have o3 := bc2_ a5; have o4 := bf_ a5 0; have o5 := bf_ a5 1; have o6 := bf_ a5 2
        go_wp2_with (first | (go_at_call 70; (with_reducible refine (spec_l1In.calls (l0_0.length : Int) 2 20 true _ A4.out).mono ?_); rintro e w' ⟨rfl, ⟨nd, rfl⟩⟩; (try first | exact ⟨rfl, _, World.drewN_drewN _ _ _⟩ | exact ⟨rfl, _, Eq.trans (World.drewN_drewN _ _ _) (congrArg (World.drewN _) (Nat.add_assoc _ _ _))⟩)) | (go_at_call 70; (with_reducible refine (spec_l1In.calls (l0_1.length : Int) 2 20 true _ A6.out).mono ?_); rintro e w' ⟨rfl, ⟨nd, rfl⟩⟩; (try first | exact ⟨rfl, _, World.drewN_drewN _ _ _⟩ | exact ⟨rfl, _, Eq.trans (World.drewN_drewN _ _ _) (congrArg (World.drewN _) (Nat.add_assoc _ _ _))⟩)) | (go_at_call 118; (with_reducible refine (spec_l1Rise.calls k _ _ l0_0 true _ ?a3 ?a4 A8.out).mono ?_); (case a3 => repeat (first | exact (Kd.C_below a7.out (hw_ HB)) | (with_reducible refine Kd.C_alloc ?_ _) | (with_reducible refine Kd.C_drewN ?_ _) | (with_reducible refine Kd.C_drew ?_))); (case a4 => exact a8.out); rintro e w' ⟨rfl, ⟨nd, rfl⟩⟩; (try first | exact ⟨rfl, _, World.drewN_drewN _ _ _⟩ | exact ⟨rfl, _, Eq.trans (World.drewN_drewN _ _ _) (congrArg (World.drewN _) (Nat.add_assoc _ _ _))⟩)) | (go_at_call 118; (with_reducible refine (spec_l1Rise.calls k _ _ l0_1 true _ ?a3 ?a4 g8.out).mono ?_); (case a3 => repeat (first | exact (Kd.C_below b0.out (hw_ HB)) | (with_reducible refine Kd.C_alloc ?_ _) | (with_reducible refine Kd.C_drewN ?_ _) | (with_reducible refine Kd.C_drew ?_))); (case a4 => exact b1.out); rintro e w' ⟨rfl, ⟨nd, rfl⟩⟩; (try first | exact ⟨rfl, _, World.drewN_drewN _ _ _⟩ | exact ⟨rfl, _, Eq.trans (World.drewN_drewN _ _ _) (congrArg (World.drewN _) (Nat.add_assoc _ _ _))⟩)) | (go_at_call 103; (with_reducible refine (spec_l1All.calls k _ _ l0_0 (-1000) 1000 true _ ?a3 ?a4 j8.out).mono ?_); (case a3 => repeat (first | exact (Kd.C_below a7.out (hw_ HB)) | (with_reducible refine Kd.C_alloc ?_ _) | (with_reducible refine Kd.C_drewN ?_ _) | (with_reducible refine Kd.C_drew ?_))); (case a4 => exact a8.out); rintro e w' ⟨rfl, ⟨nd, rfl⟩⟩; (try first | exact ⟨rfl, _, World.drewN_drewN _ _ _⟩ | exact ⟨rfl, _, Eq.trans (World.drewN_drewN _ _ _) (congrArg (World.drewN _) (Nat.add_assoc _ _ _))⟩)) | (go_at_call 103; (with_reducible refine (spec_l1All.calls k _ _ l0_1 (-1000) 1000 false _ ?a3 ?a4 l8.out).mono ?_); (case a3 => repeat (first | exact (Kd.C_below b0.out (hw_ HB)) | (with_reducible refine Kd.C_alloc ?_ _) | (with_reducible refine Kd.C_drewN ?_ _) | (with_reducible refine Kd.C_drew ?_))); (case a4 => exact b1.out); rintro e w' ⟨rfl, ⟨nd, rfl⟩⟩; (try first | exact ⟨rfl, _, World.drewN_drewN _ _ _⟩ | exact ⟨rfl, _, Eq.trans (World.drewN_drewN _ _ _) (congrArg (World.drewN _) (Nat.add_assoc _ _ _))⟩)))
        repeat (go_quiet (first | (go_at_call 70; (with_reducible refine (spec_l1In.calls (l0_0.length : Int) 2 20 true _ A4.out).mono ?_); rintro e w' ⟨rfl, ⟨nd, rfl⟩⟩; (try first | exact ⟨rfl, _, World.drewN_drewN _ _ _⟩ | exact ⟨rfl, _, Eq.trans (World.drewN_drewN _ _ _) (congrArg (World.drewN _) (Nat.add_assoc _ _ _))⟩)) | (go_at_call 70; (with_reducible refine (spec_l1In.calls (l0_1.length : Int) 2 20 true _ A6.out).mono ?_); rintro e w' ⟨rfl, ⟨nd, rfl⟩⟩; (try first | exact ⟨rfl, _, World.drewN_drewN _ _ _⟩ | exact ⟨rfl, _, Eq.trans (World.drewN_drewN _ _ _) (congrArg (World.drewN _) (Nat.add_assoc _ _ _))⟩)) | (go_at_call 118; (with_reducible refine (spec_l1Rise.calls k _ _ l0_0 true _ ?a3 ?a4 A8.out).mono ?_); (case a3 => repeat (first | exact (Kd.C_below a7.out (hw_ HB)) | (with_reducible refine Kd.C_alloc ?_ _) | (with_reducible refine Kd.C_drewN ?_ _) | (with_reducible refine Kd.C_drew ?_))); (case a4 => exact a8.out); rintro e w' ⟨rfl, ⟨nd, rfl⟩⟩; (try first | exact ⟨rfl, _, World.drewN_drewN _ _ _⟩ | exact ⟨rfl, _, Eq.trans (World.drewN_drewN _ _ _) (congrArg (World.drewN _) (Nat.add_assoc _ _ _))⟩)) | (go_at_call 118; (with_reducible refine (spec_l1Rise.calls k _ _ l0_1 true _ ?a3 ?a4 g8.out).mono ?_); (case a3 => repeat (first | exact (Kd.C_below b0.out (hw_ HB)) | (with_reducible refine Kd.C_alloc ?_ _) | (with_reducible refine Kd.C_drewN ?_ _) | (with_reducible refine Kd.C_drew ?_))); (case a4 => exact b1.out); rintro e w' ⟨rfl, ⟨nd, rfl⟩⟩; (try first | exact ⟨rfl, _, World.drewN_drewN _ _ _⟩ | exact ⟨rfl, _, Eq.trans (World.drewN_drewN _ _ _) (congrArg (World.drewN _) (Nat.add_assoc _ _ _))⟩)) | (go_at_call 103; (with_reducible refine (spec_l1All.calls k _ _ l0_0 (-1000) 1000 true _ ?a3 ?a4 j8.out).mono ?_); (case a3 => repeat (first | exact (Kd.C_below a7.out (hw_ HB)) | (with_reducible refine Kd.C_alloc ?_ _) | (with_reducible refine Kd.C_drewN ?_ _) | (with_reducible refine Kd.C_drew ?_))); (case a4 => exact a8.out); rintro e w' ⟨rfl, ⟨nd, rfl⟩⟩; (try first | exact ⟨rfl, _, World.drewN_drewN _ _ _⟩ | exact ⟨rfl, _, Eq.trans (World.drewN_drewN _ _ _) (congrArg (World.drewN _) (Nat.add_assoc _ _ _))⟩)) | (go_at_call 103; (with_reducible refine (spec_l1All.calls k _ _ l0_1 (-1000) 1000 false _ ?a3 ?a4 l8.out).mono ?_); (case a3 => repeat (first | exact (Kd.C_below b0.out (hw_ HB)) | (with_reducible refine Kd.C_alloc ?_ _) | (with_reducible refine Kd.C_drewN ?_ _) | (with_reducible refine Kd.C_drew ?_))); (case a4 => exact b1.out); rintro e w' ⟨rfl, ⟨nd, rfl⟩⟩; (try first | exact ⟨rfl, _, World.drewN_drewN _ _ _⟩ | exact ⟨rfl, _, Eq.trans (World.drewN_drewN _ _ _) (congrArg (World.drewN _) (Nat.add_assoc _ _ _))⟩))); try go_wp2_with (first | (go_at_call 70; (with_reducible refine (spec_l1In.calls (l0_0.length : Int) 2 20 true _ A4.out).mono ?_); rintro e w' ⟨rfl, ⟨nd, rfl⟩⟩; (try first | exact ⟨rfl, _, World.drewN_drewN _ _ _⟩ | exact ⟨rfl, _, Eq.trans (World.drewN_drewN _ _ _) (congrArg (World.drewN _) (Nat.add_assoc _ _ _))⟩)) | (go_at_call 70; (with_reducible refine (spec_l1In.calls (l0_1.length : Int) 2 20 true _ A6.out).mono ?_); rintro e w' ⟨rfl, ⟨nd, rfl⟩⟩; (try first | exact ⟨rfl, _, World.drewN_drewN _ _ _⟩ | exact ⟨rfl, _, Eq.trans (World.drewN_drewN _ _ _) (congrArg (World.drewN _) (Nat.add_assoc _ _ _))⟩)) | (go_at_call 118; (with_reducible refine (spec_l1Rise.calls k _ _ l0_0 true _ ?a3 ?a4 A8.out).mono ?_); (case a3 => repeat (first | exact (Kd.C_below a7.out (hw_ HB)) | (with_reducible refine Kd.C_alloc ?_ _) | (with_reducible refine Kd.C_drewN ?_ _) | (with_reducible refine Kd.C_drew ?_))); (case a4 => exact a8.out); rintro e w' ⟨rfl, ⟨nd, rfl⟩⟩; (try first | exact ⟨rfl, _, World.drewN_drewN _ _ _⟩ | exact ⟨rfl, _, Eq.trans (World.drewN_drewN _ _ _) (congrArg (World.drewN _) (Nat.add_assoc _ _ _))⟩)) | (go_at_call 118; (with_reducible refine (spec_l1Rise.calls k _ _ l0_1 true _ ?a3 ?a4 g8.out).mono ?_); (case a3 => repeat (first | exact (Kd.C_below b0.out (hw_ HB)) | (with_reducible refine Kd.C_alloc ?_ _) | (with_reducible refine Kd.C_drewN ?_ _) | (with_reducible refine Kd.C_drew ?_))); (case a4 => exact b1.out); rintro e w' ⟨rfl, ⟨nd, rfl⟩⟩; (try first | exact ⟨rfl, _, World.drewN_drewN _ _ _⟩ | exact ⟨rfl, _, Eq.trans (World.drewN_drewN _ _ _) (congrArg (World.drewN _) (Nat.add_assoc _ _ _))⟩)) | (go_at_call 103; (with_reducible refine (spec_l1All.calls k _ _ l0_0 (-1000) 1000 true _ ?a3 ?a4 j8.out).mono ?_); (case a3 => repeat (first | exact (Kd.C_below a7.out (hw_ HB)) | (with_reducible refine Kd.C_alloc ?_ _) | (with_reducible refine Kd.C_drewN ?_ _) | (with_reducible refine Kd.C_drew ?_))); (case a4 => exact a8.out); rintro e w' ⟨rfl, ⟨nd, rfl⟩⟩; (try first | exact ⟨rfl, _, World.drewN_drewN _ _ _⟩ | exact ⟨rfl, _, Eq.trans (World.drewN_drewN _ _ _) (congrArg (World.drewN _) (Nat.add_assoc _ _ _))⟩)) | (go_at_call 103; (with_reducible refine (spec_l1All.calls k _ _ l0_1 (-1000) 1000 false _ ?a3 ?a4 l8.out).mono ?_); (case a3 => repeat (first | exact (Kd.C_below b0.out (hw_ HB)) | (with_reducible refine Kd.C_alloc ?_ _) | (with_reducible refine Kd.C_drewN ?_ _) | (with_reducible refine Kd.C_drew ?_))); (case a4 => exact b1.out); rintro e w' ⟨rfl, ⟨nd, rfl⟩⟩; (try first | exact ⟨rfl, _, World.drewN_drewN _ _ _⟩ | exact ⟨rfl, _, Eq.trans (World.drewN_drewN _ _ _) (congrArg (World.drewN _) (Nat.add_assoc _ _ _))⟩))))
        go_meet
        case rel => exact ⟨_, (true), rf_, H', ⟨by first | omega | exact Nat.le_refl _⟩, bw_ a5, ⟨hw_ HB⟩⟩
      ·replace n3 := Bool.eq_false_iff.mpr n3; subst n3; rw [if_neg (show ¬ (false = true) by decide)] at H
       have H' := mk_ H
       clear H; have o7 := bc0_ a5; have o8 := bc1_ a5; have o9 := bc2_ a5; have p0 := bf_ a5 0; have p1 := bf_ a5 1; have p2 := bf_ a5 2
       go_wp2_with (first | (go_at_call 70; (with_reducible refine (spec_l1In.calls (l0_0.length : Int) 2 20 true _ A4.out).mono ?_); rintro e w' ⟨rfl, ⟨nd, rfl⟩⟩; (try first | exact ⟨rfl, _, World.drewN_drewN _ _ _⟩ | exact ⟨rfl, _, Eq.trans (World.drewN_drewN _ _ _) (congrArg (World.drewN _) (Nat.add_assoc _ _ _))⟩)) | (go_at_call 70; (with_reducible refine (spec_l1In.calls (l0_1.length : Int) 2 20 true _ A6.out).mono ?_); rintro e w' ⟨rfl, ⟨nd, rfl⟩⟩; (try first | exact ⟨rfl, _, World.drewN_drewN _ _ _⟩ | exact ⟨rfl, _, Eq.trans (World.drewN_drewN _ _ _) (congrArg (World.drewN _) (Nat.add_assoc _ _ _))⟩)) | (go_at_call 118; (with_reducible refine (spec_l1Rise.calls k _ _ l0_0 true _ ?a3 ?a4 A8.out).mono ?_); (case a3 => repeat (first | exact (Kd.C_below a7.out (hw_ HB)) | (with_reducible refine Kd.C_alloc ?_ _) | (with_reducible refine Kd.C_drewN ?_ _) | (with_reducible refine Kd.C_drew ?_))); (case a4 => exact a8.out); rintro e w' ⟨rfl, ⟨nd, rfl⟩⟩; (try first | exact ⟨rfl, _, World.drewN_drewN _ _ _⟩ | exact ⟨rfl, _, Eq.trans (World.drewN_drewN _ _ _) (congrArg (World.drewN _) (Nat.add_assoc _ _ _))⟩)) | (go_at_call 118; (with_reducible refine (spec_l1Rise.calls k _ _ l0_1 true _ ?a3 ?a4 g8.out).mono ?_); (case a3 => repeat (first | exact (Kd.C_below b0.out (hw_ HB)) | (with_reducible refine Kd.C_alloc ?_ _) | (with_reducible refine Kd.C_drewN ?_ _) | (with_reducible refine Kd.C_drew ?_))); (case a4 => exact b1.out); rintro e w' ⟨rfl, ⟨nd, rfl⟩⟩; (try first | exact ⟨rfl, _, World.drewN_drewN _ _ _⟩ | exact ⟨rfl, _, Eq.trans (World.drewN_drewN _ _ _) (congrArg (World.drewN _) (Nat.add_assoc _ _ _))⟩)) | (go_at_call 103; (with_reducible refine (spec_l1All.calls k _ _ l0_0 (-1000) 1000 false _ ?a3 ?a4 j8.out).mono ?_); (case a3 => repeat (first | exact (Kd.C_below a7.out (hw_ HB)) | (with_reducible refine Kd.C_alloc ?_ _) | (with_reducible refine Kd.C_drewN ?_ _) | (with_reducible refine Kd.C_drew ?_))); (case a4 => exact a8.out); rintro e w' ⟨rfl, ⟨nd, rfl⟩⟩; (try first | exact ⟨rfl, _, World.drewN_drewN _ _ _⟩ | exact ⟨rfl, _, Eq.trans (World.drewN_drewN _ _ _) (congrArg (World.drewN _) (Nat.add_assoc _ _ _))⟩)))
       repeat (go_quiet (first | (go_at_call 70; (with_reducible refine (spec_l1In.calls (l0_0.length : Int) 2 20 true _ A4.out).mono ?_); rintro e w' ⟨rfl, ⟨nd, rfl⟩⟩; (try first | exact ⟨rfl, _, World.drewN_drewN _ _ _⟩ | exact ⟨rfl, _, Eq.trans (World.drewN_drewN _ _ _) (congrArg (World.drewN _) (Nat.add_assoc _ _ _))⟩)) | (go_at_call 70; (with_reducible refine (spec_l1In.calls (l0_1.length : Int) 2 20 true _ A6.out).mono ?_); rintro e w' ⟨rfl, ⟨nd, rfl⟩⟩; (try first | exact ⟨rfl, _, World.drewN_drewN _ _ _⟩ | exact ⟨rfl, _, Eq.trans (World.drewN_drewN _ _ _) (congrArg (World.drewN _) (Nat.add_assoc _ _ _))⟩)) | (go_at_call 118; (with_reducible refine (spec_l1Rise.calls k _ _ l0_0 true _ ?a3 ?a4 A8.out).mono ?_); (case a3 => repeat (first | exact (Kd.C_below a7.out (hw_ HB)) | (with_reducible refine Kd.C_alloc ?_ _) | (with_reducible refine Kd.C_drewN ?_ _) | (with_reducible refine Kd.C_drew ?_))); (case a4 => exact a8.out); rintro e w' ⟨rfl, ⟨nd, rfl⟩⟩; (try first | exact ⟨rfl, _, World.drewN_drewN _ _ _⟩ | exact ⟨rfl, _, Eq.trans (World.drewN_drewN _ _ _) (congrArg (World.drewN _) (Nat.add_assoc _ _ _))⟩)) | (go_at_call 118; (with_reducible refine (spec_l1Rise.calls k _ _ l0_1 true _ ?a3 ?a4 g8.out).mono ?_); (case a3 => repeat (first | exact (Kd.C_below b0.out (hw_ HB)) | (with_reducible refine Kd.C_alloc ?_ _) | (with_reducible refine Kd.C_drewN ?_ _) | (with_reducible refine Kd.C_drew ?_))); (case a4 => exact b1.out); rintro e w' ⟨rfl, ⟨nd, rfl⟩⟩; (try first | exact ⟨rfl, _, World.drewN_drewN _ _ _⟩ | exact ⟨rfl, _, Eq.trans (World.drewN_drewN _ _ _) (congrArg (World.drewN _) (Nat.add_assoc _ _ _))⟩)) | (go_at_call 103; (with_reducible refine (spec_l1All.calls k _ _ l0_0 (-1000) 1000 false _ ?a3 ?a4 j8.out).mono ?_); (case a3 => repeat (first | exact (Kd.C_below a7.out (hw_ HB)) | (with_reducible refine Kd.C_alloc ?_ _) | (with_reducible refine Kd.C_drewN ?_ _) | (with_reducible refine Kd.C_drew ?_))); (case a4 => exact a8.out); rintro e w' ⟨rfl, ⟨nd, rfl⟩⟩; (try first | exact ⟨rfl, _, World.drewN_drewN _ _ _⟩ | exact ⟨rfl, _, Eq.trans (World.drewN_drewN _ _ _) (congrArg (World.drewN _) (Nat.add_assoc _ _ _))⟩))); try go_wp2_with (first | (go_at_call 70; (with_reducible refine (spec_l1In.calls (l0_0.length : Int) 2 20 true _ A4.out).mono ?_); rintro e w' ⟨rfl, ⟨nd, rfl⟩⟩; (try first | exact ⟨rfl, _, World.drewN_drewN _ _ _⟩ | exact ⟨rfl, _, Eq.trans (World.drewN_drewN _ _ _) (congrArg (World.drewN _) (Nat.add_assoc _ _ _))⟩)) | (go_at_call 70; (with_reducible refine (spec_l1In.calls (l0_1.length : Int) 2 20 true _ A6.out).mono ?_); rintro e w' ⟨rfl, ⟨nd, rfl⟩⟩; (try first | exact ⟨rfl, _, World.drewN_drewN _ _ _⟩ | exact ⟨rfl, _, Eq.trans (World.drewN_drewN _ _ _) (congrArg (World.drewN _) (Nat.add_assoc _ _ _))⟩)) | (go_at_call 118; (with_reducible refine (spec_l1Rise.calls k _ _ l0_0 true _ ?a3 ?a4 A8.out).mono ?_); (case a3 => repeat (first | exact (Kd.C_below a7.out (hw_ HB)) | (with_reducible refine Kd.C_alloc ?_ _) | (with_reducible refine Kd.C_drewN ?_ _) | (with_reducible refine Kd.C_drew ?_))); (case a4 => exact a8.out); rintro e w' ⟨rfl, ⟨nd, rfl⟩⟩; (try first | exact ⟨rfl, _, World.drewN_drewN _ _ _⟩ | exact ⟨rfl, _, Eq.trans (World.drewN_drewN _ _ _) (congrArg (World.drewN _) (Nat.add_assoc _ _ _))⟩)) | (go_at_call 118; (with_reducible refine (spec_l1Rise.calls k _ _ l0_1 true _ ?a3 ?a4 g8.out).mono ?_); (case a3 => repeat (first | exact (Kd.C_below b0.out (hw_ HB)) | (with_reducible refine Kd.C_alloc ?_ _) | (with_reducible refine Kd.C_drewN ?_ _) | (with_reducible refine Kd.C_drew ?_))); (case a4 => exact b1.out); rintro e w' ⟨rfl, ⟨nd, rfl⟩⟩; (try first | exact ⟨rfl, _, World.drewN_drewN _ _ _⟩ | exact ⟨rfl, _, Eq.trans (World.drewN_drewN _ _ _) (congrArg (World.drewN _) (Nat.add_assoc _ _ _))⟩)) | (go_at_call 103; (with_reducible refine (spec_l1All.calls k _ _ l0_0 (-1000) 1000 false _ ?a3 ?a4 j8.out).mono ?_); (case a3 => repeat (first | exact (Kd.C_below a7.out (hw_ HB)) | (with_reducible refine Kd.C_alloc ?_ _) | (with_reducible refine Kd.C_drewN ?_ _) | (with_reducible refine Kd.C_drew ?_))); (case a4 => exact a8.out); rintro e w' ⟨rfl, ⟨nd, rfl⟩⟩; (try first | exact ⟨rfl, _, World.drewN_drewN _ _ _⟩ | exact ⟨rfl, _, Eq.trans (World.drewN_drewN _ _ _) (congrArg (World.drewN _) (Nat.add_assoc _ _ _))⟩))))
       go_meet
       case rel => exact ⟨_, (true), rf_, H', ⟨by first | omega | exact Nat.le_refl _⟩, bw_ a5, ⟨hw_ HB⟩⟩
     ·replace n2 := Bool.eq_false_iff.mpr n2; subst n2; rw [if_neg (show ¬ (false = true) by decide)] at H
      have H' := mk_ H
      clear H; have p3 := bc0_ a5; have p4 := bc1_ a5; have p5 := bc2_ a5; have p6 := bf_ a5 0; have p7 := bf_ a5 1; have p8 := bf_ a5 2
      go_wp2_with (first | (go_at_call 70; (with_reducible refine (spec_l1In.calls (l0_0.length : Int) 2 20 true _ A4.out).mono ?_); rintro e w' ⟨rfl, ⟨nd, rfl⟩⟩; (try first | exact ⟨rfl, _, World.drewN_drewN _ _ _⟩ | exact ⟨rfl, _, Eq.trans (World.drewN_drewN _ _ _) (congrArg (World.drewN _) (Nat.add_assoc _ _ _))⟩)) | (go_at_call 70; (with_reducible refine (spec_l1In.calls (l0_1.length : Int) 2 20 true _ A6.out).mono ?_); rintro e w' ⟨rfl, ⟨nd, rfl⟩⟩; (try first | exact ⟨rfl, _, World.drewN_drewN _ _ _⟩ | exact ⟨rfl, _, Eq.trans (World.drewN_drewN _ _ _) (congrArg (World.drewN _) (Nat.add_assoc _ _ _))⟩)) | (go_at_call 118; (with_reducible refine (spec_l1Rise.calls k _ _ l0_0 true _ ?a3 ?a4 A8.out).mono ?_); (case a3 => repeat (first | exact (Kd.C_below a7.out (hw_ HB)) | (with_reducible refine Kd.C_alloc ?_ _) | (with_reducible refine Kd.C_drewN ?_ _) | (with_reducible refine Kd.C_drew ?_))); (case a4 => exact a8.out); rintro e w' ⟨rfl, ⟨nd, rfl⟩⟩; (try first | exact ⟨rfl, _, World.drewN_drewN _ _ _⟩ | exact ⟨rfl, _, Eq.trans (World.drewN_drewN _ _ _) (congrArg (World.drewN _) (Nat.add_assoc _ _ _))⟩)) | (go_at_call 118; (with_reducible refine (spec_l1Rise.calls k _ _ l0_1 false _ ?a3 ?a4 g8.out).mono ?_); (case a3 => repeat (first | exact (Kd.C_below b0.out (hw_ HB)) | (with_reducible refine Kd.C_alloc ?_ _) | (with_reducible refine Kd.C_drewN ?_ _) | (with_reducible refine Kd.C_drew ?_))); (case a4 => exact b1.out); rintro e w' ⟨rfl, ⟨nd, rfl⟩⟩; (try first | exact ⟨rfl, _, World.drewN_drewN _ _ _⟩ | exact ⟨rfl, _, Eq.trans (World.drewN_drewN _ _ _) (congrArg (World.drewN _) (Nat.add_assoc _ _ _))⟩)))
      repeat (go_quiet (first | (go_at_call 70; (with_reducible refine (spec_l1In.calls (l0_0.length : Int) 2 20 true _ A4.out).mono ?_); rintro e w' ⟨rfl, ⟨nd, rfl⟩⟩; (try first | exact ⟨rfl, _, World.drewN_drewN _ _ _⟩ | exact ⟨rfl, _, Eq.trans (World.drewN_drewN _ _ _) (congrArg (World.drewN _) (Nat.add_assoc _ _ _))⟩)) | (go_at_call 70; (with_reducible refine (spec_l1In.calls (l0_1.length : Int) 2 20 true _ A6.out).mono ?_); rintro e w' ⟨rfl, ⟨nd, rfl⟩⟩; (try first | exact ⟨rfl, _, World.drewN_drewN _ _ _⟩ | exact ⟨rfl, _, Eq.trans (World.drewN_drewN _ _ _) (congrArg (World.drewN _) (Nat.add_assoc _ _ _))⟩)) | (go_at_call 118; (with_reducible refine (spec_l1Rise.calls k _ _ l0_0 true _ ?a3 ?a4 A8.out).mono ?_); (case a3 => repeat (first | exact (Kd.C_below a7.out (hw_ HB)) | (with_reducible refine Kd.C_alloc ?_ _) | (with_reducible refine Kd.C_drewN ?_ _) | (with_reducible refine Kd.C_drew ?_))); (case a4 => exact a8.out); rintro e w' ⟨rfl, ⟨nd, rfl⟩⟩; (try first | exact ⟨rfl, _, World.drewN_drewN _ _ _⟩ | exact ⟨rfl, _, Eq.trans (World.drewN_drewN _ _ _) (congrArg (World.drewN _) (Nat.add_assoc _ _ _))⟩)) | (go_at_call 118; (with_reducible refine (spec_l1Rise.calls k _ _ l0_1 false _ ?a3 ?a4 g8.out).mono ?_); (case a3 => repeat (first | exact (Kd.C_below b0.out (hw_ HB)) | (with_reducible refine Kd.C_alloc ?_ _) | (with_reducible refine Kd.C_drewN ?_ _) | (with_reducible refine Kd.C_drew ?_))); (case a4 => exact b1.out); rintro e w' ⟨rfl, ⟨nd, rfl⟩⟩; (try first | exact ⟨rfl, _, World.drewN_drewN _ _ _⟩ | exact ⟨rfl, _, Eq.trans (World.drewN_drewN _ _ _) (congrArg (World.drewN _) (Nat.add_assoc _ _ _))⟩))); try go_wp2_with (first | (go_at_call 70; (with_reducible refine (spec_l1In.calls (l0_0.length : Int) 2 20 true _ A4.out).mono ?_); rintro e w' ⟨rfl, ⟨nd, rfl⟩⟩; (try first | exact ⟨rfl, _, World.drewN_drewN _ _ _⟩ | exact ⟨rfl, _, Eq.trans (World.drewN_drewN _ _ _) (congrArg (World.drewN _) (Nat.add_assoc _ _ _))⟩)) | (go_at_call 70; (with_reducible refine (spec_l1In.calls (l0_1.length : Int) 2 20 true _ A6.out).mono ?_); rintro e w' ⟨rfl, ⟨nd, rfl⟩⟩; (try first | exact ⟨rfl, _, World.drewN_drewN _ _ _⟩ | exact ⟨rfl, _, Eq.trans (World.drewN_drewN _ _ _) (congrArg (World.drewN _) (Nat.add_assoc _ _ _))⟩)) | (go_at_call 118; (with_reducible refine (spec_l1Rise.calls k _ _ l0_0 true _ ?a3 ?a4 A8.out).mono ?_); (case a3 => repeat (first | exact (Kd.C_below a7.out (hw_ HB)) | (with_reducible refine Kd.C_alloc ?_ _) | (with_reducible refine Kd.C_drewN ?_ _) | (with_reducible refine Kd.C_drew ?_))); (case a4 => exact a8.out); rintro e w' ⟨rfl, ⟨nd, rfl⟩⟩; (try first | exact ⟨rfl, _, World.drewN_drewN _ _ _⟩ | exact ⟨rfl, _, Eq.trans (World.drewN_drewN _ _ _) (congrArg (World.drewN _) (Nat.add_assoc _ _ _))⟩)) | (go_at_call 118; (with_reducible refine (spec_l1Rise.calls k _ _ l0_1 false _ ?a3 ?a4 g8.out).mono ?_); (case a3 => repeat (first | exact (Kd.C_below b0.out (hw_ HB)) | (with_reducible refine Kd.C_alloc ?_ _) | (with_reducible refine Kd.C_drewN ?_ _) | (with_reducible refine Kd.C_drew ?_))); (case a4 => exact b1.out); rintro e w' ⟨rfl, ⟨nd, rfl⟩⟩; (try first | exact ⟨rfl, _, World.drewN_drewN _ _ _⟩ | exact ⟨rfl, _, Eq.trans (World.drewN_drewN _ _ _) (congrArg (World.drewN _) (Nat.add_assoc _ _ _))⟩))))
      go_meet
      case rel => exact ⟨_, (true), rf_, H', ⟨by first | omega | exact Nat.le_refl _⟩, bw_ a5, ⟨hw_ HB⟩⟩
    ·replace c9 := Bool.eq_false_iff.mpr c9; subst c9; rw [if_neg (show ¬ (false = true) by decide)] at H
     have H' := mk_ H
     clear H; have p9 := bc0_ a5; have q0 := bc1_ a5; have q1 := bc2_ a5; have q2 := bf_ a5 0; have q3 := bf_ a5 1; have q4 := bf_ a5 2
     go_wp2_with (first | (go_at_call 70; (with_reducible refine (spec_l1In.calls (l0_0.length : Int) 2 20 true _ A4.out).mono ?_); rintro e w' ⟨rfl, ⟨nd, rfl⟩⟩; (try first | exact ⟨rfl, _, World.drewN_drewN _ _ _⟩ | exact ⟨rfl, _, Eq.trans (World.drewN_drewN _ _ _) (congrArg (World.drewN _) (Nat.add_assoc _ _ _))⟩)) | (go_at_call 70; (with_reducible refine (spec_l1In.calls (l0_1.length : Int) 2 20 true _ A6.out).mono ?_); rintro e w' ⟨rfl, ⟨nd, rfl⟩⟩; (try first | exact ⟨rfl, _, World.drewN_drewN _ _ _⟩ | exact ⟨rfl, _, Eq.trans (World.drewN_drewN _ _ _) (congrArg (World.drewN _) (Nat.add_assoc _ _ _))⟩)) | (go_at_call 118; (with_reducible refine (spec_l1Rise.calls k _ _ l0_0 false _ ?a3 ?a4 A8.out).mono ?_); (case a3 => repeat (first | exact (Kd.C_below a7.out (hw_ HB)) | (with_reducible refine Kd.C_alloc ?_ _) | (with_reducible refine Kd.C_drewN ?_ _) | (with_reducible refine Kd.C_drew ?_))); (case a4 => exact a8.out); rintro e w' ⟨rfl, ⟨nd, rfl⟩⟩; (try first | exact ⟨rfl, _, World.drewN_drewN _ _ _⟩ | exact ⟨rfl, _, Eq.trans (World.drewN_drewN _ _ _) (congrArg (World.drewN _) (Nat.add_assoc _ _ _))⟩)))
     repeat (go_quiet (first | (go_at_call 70; (with_reducible refine (spec_l1In.calls (l0_0.length : Int) 2 20 true _ A4.out).mono ?_); rintro e w' ⟨rfl, ⟨nd, rfl⟩⟩; (try first | exact ⟨rfl, _, World.drewN_drewN _ _ _⟩ | exact ⟨rfl, _, Eq.trans (World.drewN_drewN _ _ _) (congrArg (World.drewN _) (Nat.add_assoc _ _ _))⟩)) | (go_at_call 70; (with_reducible refine (spec_l1In.calls (l0_1.length : Int) 2 20 true _ A6.out).mono ?_); rintro e w' ⟨rfl, ⟨nd, rfl⟩⟩; (try first | exact ⟨rfl, _, World.drewN_drewN _ _ _⟩ | exact ⟨rfl, _, Eq.trans (World.drewN_drewN _ _ _) (congrArg (World.drewN _) (Nat.add_assoc _ _ _))⟩)) | (go_at_call 118; (with_reducible refine (spec_l1Rise.calls k _ _ l0_0 false _ ?a3 ?a4 A8.out).mono ?_); (case a3 => repeat (first | exact (Kd.C_below a7.out (hw_ HB)) | (with_reducible refine Kd.C_alloc ?_ _) | (with_reducible refine Kd.C_drewN ?_ _) | (with_reducible refine Kd.C_drew ?_))); (case a4 => exact a8.out); rintro e w' ⟨rfl, ⟨nd, rfl⟩⟩; (try first | exact ⟨rfl, _, World.drewN_drewN _ _ _⟩ | exact ⟨rfl, _, Eq.trans (World.drewN_drewN _ _ _) (congrArg (World.drewN _) (Nat.add_assoc _ _ _))⟩))); try go_wp2_with (first | (go_at_call 70; (with_reducible refine (spec_l1In.calls (l0_0.length : Int) 2 20 true _ A4.out).mono ?_); rintro e w' ⟨rfl, ⟨nd, rfl⟩⟩; (try first | exact ⟨rfl, _, World.drewN_drewN _ _ _⟩ | exact ⟨rfl, _, Eq.trans (World.drewN_drewN _ _ _) (congrArg (World.drewN _) (Nat.add_assoc _ _ _))⟩)) | (go_at_call 70; (with_reducible refine (spec_l1In.calls (l0_1.length : Int) 2 20 true _ A6.out).mono ?_); rintro e w' ⟨rfl, ⟨nd, rfl⟩⟩; (try first | exact ⟨rfl, _, World.drewN_drewN _ _ _⟩ | exact ⟨rfl, _, Eq.trans (World.drewN_drewN _ _ _) (congrArg (World.drewN _) (Nat.add_assoc _ _ _))⟩)) | (go_at_call 118; (with_reducible refine (spec_l1Rise.calls k _ _ l0_0 false _ ?a3 ?a4 A8.out).mono ?_); (case a3 => repeat (first | exact (Kd.C_below a7.out (hw_ HB)) | (with_reducible refine Kd.C_alloc ?_ _) | (with_reducible refine Kd.C_drewN ?_ _) | (with_reducible refine Kd.C_drew ?_))); (case a4 => exact a8.out); rintro e w' ⟨rfl, ⟨nd, rfl⟩⟩; (try first | exact ⟨rfl, _, World.drewN_drewN _ _ _⟩ | exact ⟨rfl, _, Eq.trans (World.drewN_drewN _ _ _) (congrArg (World.drewN _) (Nat.add_assoc _ _ _))⟩))))
     go_meet
     case rel => exact ⟨_, (true), rf_, H', ⟨by first | omega | exact Nat.le_refl _⟩, bw_ a5, ⟨hw_ HB⟩⟩
   ·replace c7 := Bool.eq_false_iff.mpr c7; subst c7; rw [if_neg (show ¬ (false = true) by decide)] at H
    have H' := mk_ H
    clear H; have q5 := bc0_ a5; have q6 := bc1_ a5; have q7 := bc2_ a5; have q8 := bf_ a5 0; have q9 := bf_ a5 1; have s0 := bf_ a5 2
    go_wp2_with (first | (go_at_call 70; (with_reducible refine (spec_l1In.calls (l0_0.length : Int) 2 20 true _ A4.out).mono ?_); rintro e w' ⟨rfl, ⟨nd, rfl⟩⟩; (try first | exact ⟨rfl, _, World.drewN_drewN _ _ _⟩ | exact ⟨rfl, _, Eq.trans (World.drewN_drewN _ _ _) (congrArg (World.drewN _) (Nat.add_assoc _ _ _))⟩)) | (go_at_call 70; (with_reducible refine (spec_l1In.calls (l0_1.length : Int) 2 20 false _ A6.out).mono ?_); rintro e w' ⟨rfl, ⟨nd, rfl⟩⟩; (try first | exact ⟨rfl, _, World.drewN_drewN _ _ _⟩ | exact ⟨rfl, _, Eq.trans (World.drewN_drewN _ _ _) (congrArg (World.drewN _) (Nat.add_assoc _ _ _))⟩)))
    repeat (go_quiet (first | (go_at_call 70; (with_reducible refine (spec_l1In.calls (l0_0.length : Int) 2 20 true _ A4.out).mono ?_); rintro e w' ⟨rfl, ⟨nd, rfl⟩⟩; (try first | exact ⟨rfl, _, World.drewN_drewN _ _ _⟩ | exact ⟨rfl, _, Eq.trans (World.drewN_drewN _ _ _) (congrArg (World.drewN _) (Nat.add_assoc _ _ _))⟩)) | (go_at_call 70; (with_reducible refine (spec_l1In.calls (l0_1.length : Int) 2 20 false _ A6.out).mono ?_); rintro e w' ⟨rfl, ⟨nd, rfl⟩⟩; (try first | exact ⟨rfl, _, World.drewN_drewN _ _ _⟩ | exact ⟨rfl, _, Eq.trans (World.drewN_drewN _ _ _) (congrArg (World.drewN _) (Nat.add_assoc _ _ _))⟩))); try go_wp2_with (first | (go_at_call 70; (with_reducible refine (spec_l1In.calls (l0_0.length : Int) 2 20 true _ A4.out).mono ?_); rintro e w' ⟨rfl, ⟨nd, rfl⟩⟩; (try first | exact ⟨rfl, _, World.drewN_drewN _ _ _⟩ | exact ⟨rfl, _, Eq.trans (World.drewN_drewN _ _ _) (congrArg (World.drewN _) (Nat.add_assoc _ _ _))⟩)) | (go_at_call 70; (with_reducible refine (spec_l1In.calls (l0_1.length : Int) 2 20 false _ A6.out).mono ?_); rintro e w' ⟨rfl, ⟨nd, rfl⟩⟩; (try first | exact ⟨rfl, _, World.drewN_drewN _ _ _⟩ | exact ⟨rfl, _, Eq.trans (World.drewN_drewN _ _ _) (congrArg (World.drewN _) (Nat.add_assoc _ _ _))⟩))))
    go_meet
    case rel => exact ⟨_, (true), rf_, H', ⟨by first | omega | exact Nat.le_refl _⟩, bw_ a5, ⟨hw_ HB⟩⟩
  ·replace c5 := Bool.eq_false_iff.mpr c5; subst c5; rw [if_neg (show ¬ (false = true) by decide)] at H
   have H' := mk_ H
   clear H; have s1 := bc0_ a5; have s2 := bc1_ a5; have s3 := bc2_ a5; have s4 := bf_ a5 0; have s5 := bf_ a5 1; have s6 := bf_ a5 2
   go_wp2_with (first | (go_at_call 70; (with_reducible refine (spec_l1In.calls (l0_0.length : Int) 2 20 false _ A4.out).mono ?_); rintro e w' ⟨rfl, ⟨nd, rfl⟩⟩; (try first | exact ⟨rfl, _, World.drewN_drewN _ _ _⟩ | exact ⟨rfl, _, Eq.trans (World.drewN_drewN _ _ _) (congrArg (World.drewN _) (Nat.add_assoc _ _ _))⟩)))
   repeat (go_quiet (first | (go_at_call 70; (with_reducible refine (spec_l1In.calls (l0_0.length : Int) 2 20 false _ A4.out).mono ?_); rintro e w' ⟨rfl, ⟨nd, rfl⟩⟩; (try first | exact ⟨rfl, _, World.drewN_drewN _ _ _⟩ | exact ⟨rfl, _, Eq.trans (World.drewN_drewN _ _ _) (congrArg (World.drewN _) (Nat.add_assoc _ _ _))⟩))); try go_wp2_with (first | (go_at_call 70; (with_reducible refine (spec_l1In.calls (l0_0.length : Int) 2 20 false _ A4.out).mono ?_); rintro e w' ⟨rfl, ⟨nd, rfl⟩⟩; (try first | exact ⟨rfl, _, World.drewN_drewN _ _ _⟩ | exact ⟨rfl, _, Eq.trans (World.drewN_drewN _ _ _) (congrArg (World.drewN _) (Nat.add_assoc _ _ _))⟩))))
   go_meet
   case rel => exact ⟨_, (true), rf_, H', ⟨by first | omega | exact Nat.le_refl _⟩, bw_ a5, ⟨hw_ HB⟩⟩
 case rest =>
  clear B3
  obtain ⟨kq, g3, rfl, HA, B9, a5, HB⟩ := hcut
  cases kq with
  | zero => exact absurd HA.out (by simp [spec_GridOk.j0])
  | succ kj1 =>
   have H := HA.out; clear HA
   simp only [spec_GridOk.j0] at H
   by_cases m5 : g3 = true
   ·subst m5; rw [if_pos rfl] at H
    obtain rfl := Option.some.inj H; go_wp2
    repeat (go_quiet (fail); try go_wp2)
    go_ret
    exact ⟨re_, hw_ HB⟩
   ·replace m5 := Bool.eq_false_iff.mpr m5; subst m5; rw [if_neg (show ¬ (false = true) by decide)] at H
    have H' := mk_ H
    clear H; go_wp2
    repeat (go_quiet (fail); try go_wp2)
    go_loopg [3] kj1 (fun kq v3 w' => ∃ (a6 : Int), v3 = .int .i64 a6 ∧ Aside0 (spec_GridOk.l0 kq a6 l0_0 l0_1 l0_2 = some r) ∧ Aside0 (kq ≤ kj1) ∧ Aside0 (w'.heap[g2]? = some (.cells #[(.slice A0_0 l0_0.length c0_0), (.slice A0_1 l0_1.length c0_1), (.slice A0_2 l0_2.length c0_2)] 75 (0, 0))) ∧ Aside0 (Below w.heap.size w w'))
    case atStart => exact ⟨(0), rf_, H', ⟨Nat.le_refl _⟩, bw_ a5, ⟨hw_ HB⟩⟩
    case round =>
     clear H'; (try clear m5)
     obtain ⟨a6, rfl, HA, C0, a5, HB⟩ := hrel
     cases gk with
     | zero => exact absurd HA.out (by simp [spec_GridOk.l0])
     | succ k2 =>
      have H := HA.out; clear HA
      simp only [spec_GridOk.l0] at H
      by_cases l9 : a6 < (l0_2.length : Int)
      ·rw [if_pos l9] at H; have m6 : decide (a6 < (l0_2.length : Int)) = true := decide_eq_true l9; clear l9; by_cases s7 : 0 ≤ a6
       ·rw [if_pos s7] at H; have C1 : decide (0 ≤ a6) = true := decide_eq_true s7; clear s7; by_cases h9 : ((rd_L1 l0_2 a6).length : Int) = (l0_0.length : Int)
        ·rw [if_pos h9] at H; have m7 : (((rd_L1 l0_2 a6).length : Int) == (l0_0.length : Int)) = true := beq_iff_eq.mpr h9; have m8 : (((rd_L1 l0_2 a6).length : Int) != (l0_0.length : Int)) = false := bne_eq_false_iff_eq.mpr h9
         have m9 : ((rd_L1 l0_2 a6).length == l0_0.length) = true := by first | simpa using h9 | (simp at h9 ⊢; omega)
         clear h9; replace H := Option.bind_eq_some_iff.mp H; obtain ⟨l3, n0, H⟩ := H; (try dsimp only at H); have m0 := mk_ n0; clear n0; by_cases s8 : l3 = true
         ·subst s8; rw [if_pos rfl] at H
          have H' := mk_ H
          clear H; have s9 := bc0_ a5; have t0 := bc1_ a5; have t1 := bc2_ a5; have t2 := bf_ a5 0; have t3 := bf_ a5 1; have t4 := bf_ a5 2
          have c8 : 0 ≤ (a6 : Int) := od_
          have d0 : a6 < (l0_2.length : Int) := od_
          obtain ⟨g4, j1, j2, j3, a9, b4, b5⟩ := at_L1 d3.out a6 c8 d0; cases j3
          replace a9 := (HB.out.cell (World.block_lt_of_cell? w _ a9)).trans a9
          have g5 := mk_ b5; have g6 := mk_ b4; clear b5 b4; replace c8 := eq_true c8; replace d0 := eq_true d0
          have d9 : 0 ≤ (a6 : Int) := od_
          have g1 : a6 < (l0_2.length : Int) := od_
          obtain ⟨j4, l5, l6, l7, b2, b9, c1⟩ := at_L1 d3.out a6 d9 g1; obtain rfl : g4 = j4 := (by injection l7)
          replace b2 := (HB.out.cell (World.block_lt_of_cell? w _ b2)).trans b2
          have b6 := mk_ c1; have b7 := mk_ b9; clear c1 b9; replace d9 := eq_true d9; replace g1 := eq_true g1
          have ea_ := Option.some.inj (a9.symm.trans b2)
          injection ea_ with ea_ en_ ec_
          subst ea_; subst ec_
          clear en_
          go_wp2_with (first | (go_at_call 103; (with_reducible refine (spec_l1All.calls k2 _ _ (rd_L1 l0_2 a6) (-1000) 1000 true _ ?a3 ?a4 m0.out).mono ?_); (case a3 => exact cw_ (Kd.C_below b6.out HB.out)); (case a4 => exact b7.out); rintro e w' ⟨rfl, ⟨nd, rfl⟩⟩; (try first | exact ⟨rfl, _, World.drewN_drewN _ _ _⟩ | exact ⟨rfl, _, Eq.trans (World.drewN_drewN _ _ _) (congrArg (World.drewN _) (Nat.add_assoc _ _ _))⟩)))
          repeat (go_quiet (first | (go_at_call 103; (with_reducible refine (spec_l1All.calls k2 _ _ (rd_L1 l0_2 a6) (-1000) 1000 true _ ?a3 ?a4 m0.out).mono ?_); (case a3 => exact cw_ (Kd.C_below b6.out HB.out)); (case a4 => exact b7.out); rintro e w' ⟨rfl, ⟨nd, rfl⟩⟩; (try first | exact ⟨rfl, _, World.drewN_drewN _ _ _⟩ | exact ⟨rfl, _, Eq.trans (World.drewN_drewN _ _ _) (congrArg (World.drewN _) (Nat.add_assoc _ _ _))⟩))); try go_wp2_with (first | (go_at_call 103; (with_reducible refine (spec_l1All.calls k2 _ _ (rd_L1 l0_2 a6) (-1000) 1000 true _ ?a3 ?a4 m0.out).mono ?_); (case a3 => exact cw_ (Kd.C_below b6.out HB.out)); (case a4 => exact b7.out); rintro e w' ⟨rfl, ⟨nd, rfl⟩⟩; (try first | exact ⟨rfl, _, World.drewN_drewN _ _ _⟩ | exact ⟨rfl, _, Eq.trans (World.drewN_drewN _ _ _) (congrArg (World.drewN _) (Nat.add_assoc _ _ _))⟩))))
          go_roundg k2
          case measure => have := B9.out; have := C0.out; omega
          case rel => exact ⟨(wrap64 (a6 + 1)), rf_, H', ⟨by have := B9.out; have := C0.out; omega⟩, bw_ a5, ⟨hw_ HB⟩⟩
         ·replace s8 := Bool.eq_false_iff.mpr s8; subst s8; rw [if_neg (show ¬ (false = true) by decide)] at H; obtain rfl := Option.some.inj H; have t5 := bc0_ a5; have t6 := bc1_ a5; have t7 := bc2_ a5; have t8 := bf_ a5 0; have t9 := bf_ a5 1; have y4 := bf_ a5 2
          have c8 : 0 ≤ (a6 : Int) := od_
          have d0 : a6 < (l0_2.length : Int) := od_
          obtain ⟨g4, j1, j2, j3, a9, b4, b5⟩ := at_L1 d3.out a6 c8 d0; cases j3
          replace a9 := (HB.out.cell (World.block_lt_of_cell? w _ a9)).trans a9
          have g5 := mk_ b5; have g6 := mk_ b4; clear b5 b4; replace c8 := eq_true c8; replace d0 := eq_true d0
          have d9 : 0 ≤ (a6 : Int) := od_
          have g1 : a6 < (l0_2.length : Int) := od_
          obtain ⟨j4, l5, l6, l7, b2, b9, c1⟩ := at_L1 d3.out a6 d9 g1; obtain rfl : g4 = j4 := (by injection l7)
          replace b2 := (HB.out.cell (World.block_lt_of_cell? w _ b2)).trans b2
          have b6 := mk_ c1; have b7 := mk_ b9; clear c1 b9; replace d9 := eq_true d9; replace g1 := eq_true g1
          have ea_ := Option.some.inj (a9.symm.trans b2)
          injection ea_ with ea_ en_ ec_
          subst ea_; subst ec_
          clear en_
          go_wp2_with (first | (go_at_call 103; (with_reducible refine (spec_l1All.calls k2 _ _ (rd_L1 l0_2 a6) (-1000) 1000 false _ ?a3 ?a4 m0.out).mono ?_); (case a3 => exact cw_ (Kd.C_below b6.out HB.out)); (case a4 => exact b7.out); rintro e w' ⟨rfl, ⟨nd, rfl⟩⟩; (try first | exact ⟨rfl, _, World.drewN_drewN _ _ _⟩ | exact ⟨rfl, _, Eq.trans (World.drewN_drewN _ _ _) (congrArg (World.drewN _) (Nat.add_assoc _ _ _))⟩)))
          repeat (go_quiet (first | (go_at_call 103; (with_reducible refine (spec_l1All.calls k2 _ _ (rd_L1 l0_2 a6) (-1000) 1000 false _ ?a3 ?a4 m0.out).mono ?_); (case a3 => exact cw_ (Kd.C_below b6.out HB.out)); (case a4 => exact b7.out); rintro e w' ⟨rfl, ⟨nd, rfl⟩⟩; (try first | exact ⟨rfl, _, World.drewN_drewN _ _ _⟩ | exact ⟨rfl, _, Eq.trans (World.drewN_drewN _ _ _) (congrArg (World.drewN _) (Nat.add_assoc _ _ _))⟩))); try go_wp2_with (first | (go_at_call 103; (with_reducible refine (spec_l1All.calls k2 _ _ (rd_L1 l0_2 a6) (-1000) 1000 false _ ?a3 ?a4 m0.out).mono ?_); (case a3 => exact cw_ (Kd.C_below b6.out HB.out)); (case a4 => exact b7.out); rintro e w' ⟨rfl, ⟨nd, rfl⟩⟩; (try first | exact ⟨rfl, _, World.drewN_drewN _ _ _⟩ | exact ⟨rfl, _, Eq.trans (World.drewN_drewN _ _ _) (congrArg (World.drewN _) (Nat.add_assoc _ _ _))⟩))))
          go_ret
          exact ⟨re_, hw_ HB⟩
        ·rw [if_neg h9] at H; have m7 : (((rd_L1 l0_2 a6).length : Int) == (l0_0.length : Int)) = false := beq_eq_false_iff_ne.mpr h9; have m8 : (((rd_L1 l0_2 a6).length : Int) != (l0_0.length : Int)) = true := bne_iff_ne.mpr h9
         have m9 : ((rd_L1 l0_2 a6).length == l0_0.length) = false := by first | simpa using h9 | (simp at h9 ⊢; omega)
         obtain rfl := Option.some.inj H; have y5 := bc0_ a5
         have y6 := bc1_ a5; have y7 := bc2_ a5; have y8 := bf_ a5 0; have y9 := bf_ a5 1; have A1 := bf_ a5 2
         have c8 : 0 ≤ (a6 : Int) := od_
         have d0 : a6 < (l0_2.length : Int) := od_
         obtain ⟨g4, j1, j2, j3, a9, b4, b5⟩ := at_L1 d3.out a6 c8 d0; cases j3
         replace a9 := (HB.out.cell (World.block_lt_of_cell? w _ a9)).trans a9
         have g5 := mk_ b5; have g6 := mk_ b4; clear b5 b4; replace c8 := eq_true c8; replace d0 := eq_true d0; go_wp2
         repeat (go_quiet (fail); try go_wp2)
         go_ret
         exact ⟨re_, hw_ HB⟩
       ·rw [if_neg s7] at H
        exact absurd H (by simp)
      ·rw [if_neg l9] at H; have m6 : decide (a6 < (l0_2.length : Int)) = false := decide_eq_false l9; clear l9; obtain rfl := Option.some.inj H; have A2 := bc0_ a5; have A3 := bc1_ a5; have A5 := bc2_ a5; have A7 := bf_ a5 0; have A9 := bf_ a5 1; have B0 := bf_ a5 2; go_wp2
       repeat (go_quiet (fail); try go_wp2)
       go_ret
       exact ⟨re_, hw_ HB⟩

end Go.Proofs.Ytnphbpkpjinddaa.QFnExactAtGrid
-- squeezed
