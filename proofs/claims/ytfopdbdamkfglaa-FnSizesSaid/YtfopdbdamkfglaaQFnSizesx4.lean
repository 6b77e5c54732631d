/- Lean functions that tell what the Go functions used by one law answer, and for each a proof that the Go code comes to just these answers; no condition. Printed by this session's own program over the kit's printer. -/
import Derived.Test.YtfopdbdamkfglaaQFnSizesx0
import Derived.Test.YtfopdbdamkfglaaQFnSizesx3
namespace Go.Proofs.Ytfopdbdamkfglaa.QFnSizes
open Go.RowKit Go.Proofs.YtfopdbdamkfglaaW.PrintWords Go.Proofs.YtfopdbdamkfglaaW.PrintLast Go.Proofs.YtfopdbdamkfglaaW.PrintMore
attribute [local go_sem] max2_int min2_int max_two min_two max_three min_three max_four min_four   -- for this text's walks alone
attribute [local go_sem high] go_eql go_neq go_lss go_leq go_gtr go_geq go_store   -- for this text's walks alone
set_option linter.unusedVariables false
set_option linter.unusedSimpArgs false

/-! ### spec_l1New: function 85 -/
mutual
def spec_l1New.l0 : Nat → List Int → Int → Int → Option (List Int × Int × Int)
  | 0, _, _, _ => none
  | k + 1, x0, x3, x4 => if x4 < (x0.length : Int) then (spec_l1New.j1 k x0 x3 x4 (decide (x4 < 4000))) else (spec_l1New.j1 k x0 x3 x4 false)
def spec_l1New.j1 : Nat → List Int → Int → Int → Bool → Option (List Int × Int × Int)
  | 0, _, _, _, _ => none
  | k + 1, x0, x3, x4, x15 => if x15 = true then (if 0 ≤ x4 then (if x4 < (x0.length : Int) then (spec_l1New.l0 k x0 (Go.bits .and .i64 (wrap64 ((wrap64 ((wrap64 (x3 * 131)) + (wrap64 (rd x0 x4)))) + 7)) 1073741823) (wrap64 (x4 + 1))) else (none)) else (none)) else (some (x0, 0, x3))
end
def spec_l1New.f (k : Nat) (l0 : List Int) : Option (List Int × Int × Int) := spec_l1New.l0 k l0 (wrap64 (63063 + (l0.length : Int))) 0
theorem spec_l1New.mono_l : ∀ k, (∀ y0 y1 y2, LeO (spec_l1New.l0 k y0 y1 y2) (spec_l1New.l0 (k + 1) y0 y1 y2)) ∧ (∀ y0 y1 y2 y3, LeO (spec_l1New.j1 k y0 y1 y2 y3) (spec_l1New.j1 (k + 1) y0 y1 y2 y3))
  | 0 => ⟨fun _ _ _ r h => by simp [spec_l1New.l0] at h, fun _ _ _ _ r h => by simp [spec_l1New.j1] at h⟩
  | k + 1 => by
    obtain ⟨ih0, ih1⟩ := spec_l1New.mono_l k
    refine ⟨?_, ?_⟩
    · intro y0 y1 y2
      unfold spec_l1New.l0
      repeat' first
      | (with_reducible exact ih0 _ _ _)
      | (with_reducible exact ih1 _ _ _ _)
      | (with_reducible exact LeO.refl _)
      | (with_reducible exact LeO.none _)
      | (with_reducible refine LeO.ite ?_ ?_)
      | (with_reducible refine LeO.bind ?_ (fun _ => ?_))
      | exact ih0 _ _ _
      | exact ih1 _ _ _ _
      | exact LeO.none _
      | refine LeO.ite ?_ ?_
      | refine LeO.bind ?_ (fun _ => ?_)
    · intro y0 y1 y2 y3
      unfold spec_l1New.j1
      repeat' first
      | (with_reducible exact ih0 _ _ _)
      | (with_reducible exact ih1 _ _ _ _)
      | (with_reducible exact LeO.refl _)
      | (with_reducible exact LeO.none _)
      | (with_reducible refine LeO.ite ?_ ?_)
      | (with_reducible refine LeO.bind ?_ (fun _ => ?_))
      | exact ih0 _ _ _
      | exact ih1 _ _ _ _
      | exact LeO.none _
      | refine LeO.ite ?_ ?_
      | refine LeO.bind ?_ (fun _ => ?_)
theorem spec_l1New.mono : ∀ a0 k, LeO (spec_l1New.f k a0) (spec_l1New.f (k + 1) a0) := by
  intro a0 k
  obtain ⟨ih0, ih1⟩ := spec_l1New.mono_l k
  unfold spec_l1New.f
  repeat' first
      | (with_reducible exact ih0 _ _ _)
      | (with_reducible exact ih1 _ _ _ _)
      | (with_reducible exact LeO.refl _)
      | (with_reducible exact LeO.none _)
      | (with_reducible refine LeO.ite ?_ ?_)
      | (with_reducible refine LeO.bind ?_ (fun _ => ?_))
      | exact ih0 _ _ _
      | exact ih1 _ _ _ _
      | exact LeO.none _
      | refine LeO.ite ?_ ?_
      | refine LeO.bind ?_ (fun _ => ?_)
set_option maxHeartbeats 8000000 in
set_option maxRecDepth 100000 in
theorem spec_l1New.calls (k : Nat) (A0 : Option Addr) (c0 : Nat) (l0 : List Int) (r1 : List Int) (r2 : Int) (r3 : Int) (w0 w : World) (hB : Below w0.heap.size w0 w) (hr0 : Kd.C (Kd.int .u8) w0 A0 l0.length l0) (hc0 : l0.length ≤ c0) (h : spec_l1New.f k l0 = some (r1, r2, r3)) :
    Calls Try.prog 85 #[.slice A0 l0.length c0] w fun e w' => ∃ g_ : Nat, e = .returned (.pointer (some ⟨g_, 0, none⟩)) ∧ IsS118 w0 w' g_ r1 r2 r3 ∧ Below w0.heap.size w0 w' ∧ Below w.heap.size w w' := by
  have hu118 := Try.underlying118
  have HR0 := Aside0.mk hr0
  have HC0 := Aside0.mk hc0
  clear hr0 hc0
  have HBW := Aside0.mk (Below.refl w.heap.size w)
  have HW0 := Aside0.mk hB.size
  have HB := Aside0.mk hB
  clear hB
  have H : (spec_l1New.l0 k l0 (wrap64 (63063 + (l0.length : Int))) 0) = some (r1, r2, r3) := h
  clear h
  have H' := Aside0.mk H
  clear H
  go_enter Try.func85, Try.ntmps85
  go_wp2
  go_loopg [3, 4] k (fun kq v3 v4 w' => ∃ (x3_1 : Int) (x4_1 : Int), v3 = .int .i64 x3_1 ∧ v4 = .int .i64 x4_1 ∧ Aside0 (spec_l1New.l0 kq l0 x3_1 x4_1 = some (r1, r2, r3)) ∧ Aside0 (kq ≤ k) ∧ Aside0 (Below w.heap.size w w') ∧ Aside0 (Below w0.heap.size w0 w'))
  case atStart => exact ⟨(wrap64 (63063 + (l0.length : Int))), (0), (by first | rfl | (simp; done) | (simp [*]; done)), (by first | rfl | (simp; done) | (simp [*]; done)), H', ⟨Nat.le_refl _⟩, ⟨by repeat (first | (with_reducible first | exact HBW.out | apply below_alloc | apply pw_below_drewN | apply below_drew1) | exact HBW.out)⟩, ⟨by repeat (first | (with_reducible first | exact HB.out | apply below_alloc | apply pw_below_drewN | apply below_drew1) | exact HB.out)⟩⟩
  case round =>
    clear H'
    obtain ⟨x3_1, x4_1, rfl, rfl, HA, HK1, HBW, HB⟩ := hrel
    cases gk with
    | zero => exact absurd HA.out (by simp [spec_l1New.l0])
    | succ k1 =>
      have H := HA.out
      clear HA
      simp only [spec_l1New.l0] at H
      have HC2 := Aside0.mk H
      clear H
      go_upto_region 3 with (fail)
      go_cut [15] (fun v15 wc => ∃ (kq : Nat) (x15_1 : Bool), v15 = .bool x15_1 ∧ Aside0 (spec_l1New.j1 kq l0 x3_1 x4_1 x15_1 = some (r1, r2, r3)) ∧ Aside0 (kq ≤ k1) ∧ Aside0 (Below w.heap.size w wc) ∧ Aside0 (Below w0.heap.size w0 wc))
      case first =>
        have H := HC2.out
        clear HC2
        by_cases c3 : x4_1 < (l0.length : Int)
        · rw [if_pos c3] at H
          have c3b0 : decide (x4_1 < (l0.length : Int)) = true := decide_eq_true c3
          clear c3
          (first | rw [c3b0] | (simp only [i64_w, i32_w]; rw [c3b0]) | skip)
          have H' := Aside0.mk H
          clear H
          go_wp2
          go_meet
          case rel => exact ⟨_, (decide (x4_1 < 4000)), (by first | rfl | (simp; done) | (simp [*]; done)), H', ⟨by have := HK1.out; first | omega | exact Nat.le_refl _⟩, ⟨by repeat (first | (with_reducible first | exact HBW.out | apply below_alloc | apply pw_below_drewN | apply below_drew1) | exact HBW.out)⟩, ⟨by repeat (first | (with_reducible first | exact HB.out | apply below_alloc | apply pw_below_drewN | apply below_drew1) | exact HB.out)⟩⟩
        · rw [if_neg c3] at H
          have c3b0 : decide (x4_1 < (l0.length : Int)) = false := decide_eq_false c3
          clear c3
          (first | rw [c3b0] | (simp only [i64_w, i32_w]; rw [c3b0]) | skip)
          have H' := Aside0.mk H
          clear H
          go_wp2
          go_meet
          case rel => exact ⟨_, (false), (by first | rfl | (simp; done) | (simp [*]; done)), H', ⟨by have := HK1.out; first | omega | exact Nat.le_refl _⟩, ⟨by repeat (first | (with_reducible first | exact HBW.out | apply below_alloc | apply pw_below_drewN | apply below_drew1) | exact HBW.out)⟩, ⟨by repeat (first | (with_reducible first | exact HB.out | apply below_alloc | apply pw_below_drewN | apply below_drew1) | exact HB.out)⟩⟩
      case rest =>
        clear HC2
        try clear p2
        try clear c3
        try clear c3b0
        obtain ⟨kq, x15_1, rfl, HA, HJ1, HBW, HB⟩ := hcut
        cases kq with
        | zero => exact absurd HA.out (by simp [spec_l1New.j1])
        | succ kj1 =>
          have H := HA.out
          clear HA
          simp only [spec_l1New.j1] at H
          by_cases c4 : x15_1 = true
          · subst c4
            have H1 : (if 0 ≤ x4_1 then (if x4_1 < (l0.length : Int) then (spec_l1New.l0 kj1 l0 (Go.bits .and .i64 (wrap64 ((wrap64 ((wrap64 (x3_1 * 131)) + (wrap64 (rd l0 x4_1)))) + 7)) 1073741823) (wrap64 (x4_1 + 1))) else (none)) else (none)) = some (r1, r2, r3) := by rw [if_pos rfl] at H; exact H
            clear H
            have H := H1
            clear H1
            by_cases c5 : 0 ≤ x4_1
            · rw [if_pos c5] at H
              have c5b0 : decide (0 ≤ x4_1) = true := decide_eq_true c5
              clear c5
              by_cases c6 : x4_1 < (l0.length : Int)
              · rw [if_pos c6] at H
                have c6b0 : decide (x4_1 < (l0.length : Int)) = true := decide_eq_true c6
                clear c6
                have H' := Aside0.mk H
                clear H
                have p235 : 0 ≤ (x4_1 : Int) := of_decide_eq_true (by first | (with_reducible assumption) | assumption)
                have q235 : x4_1 < (l0.length : Int) := of_decide_eq_true (by first | (with_reducible assumption) | assumption)
                obtain ⟨ad235, e235, hx235_0⟩ := Kd.at_int HR0.out x4_1 p235 q235
                cases e235
                replace hx235_0 := pw_cell_below HB.out hx235_0
                replace p235 := eq_true p235
                replace q235 := eq_true q235
                go_wp2
                go_roundg kj1
                case measure => have := HK1.out; have := HJ1.out; omega
                case rel => exact ⟨(Go.bits .and .i64 (wrap64 ((wrap64 ((wrap64 (x3_1 * 131)) + (wrap64 (rd l0 x4_1)))) + 7)) 1073741823), (wrap64 (x4_1 + 1)), (by first | rfl | (simp; done) | (simp [*]; done)), (by first | rfl | (simp; done) | (simp [*]; done)), H', ⟨by have := HK1.out; have := HJ1.out; omega⟩, ⟨by repeat (first | (with_reducible first | exact HBW.out | apply below_alloc | apply pw_below_drewN | apply below_drew1) | exact HBW.out)⟩, ⟨by repeat (first | (with_reducible first | exact HB.out | apply below_alloc | apply pw_below_drewN | apply below_drew1) | exact HB.out)⟩⟩
              · rw [if_neg c6] at H
                exact absurd H (by simp)
            · rw [if_neg c5] at H
              exact absurd H (by simp)
          · replace c4 := Bool.eq_false_iff.mpr c4
            subst c4
            have H1 : (some (l0, 0, x3_1)) = some (r1, r2, r3) := by rw [if_neg (show ¬ (false = true) by decide)] at H; exact H
            clear H
            have H := H1
            clear H1
            simp only [Option.some.injEq, Prod.mk.injEq] at H
            obtain ⟨rfl, rfl, rfl⟩ := H
            go_wp2_with (first | ((with_reducible refine gate_dst (N := 31) rfl ?_); refine box_event ?hg (N := 31) ?hd (cs := #[.slice A0 l0.length c0, .int .i64 0, .int .i64 x3_1]) (t := 118) ?hr ?_; (case hd => rfl); (case hg => rfl); (case hr => first | (go_simp; done) | (go_simp; rfl)); intro gb236 hg w7 hbox hb; have n0_ := Aside0.mk (below_step HBW.out hb); have n1_ := Aside0.mk (below_step (by exact HB.out) hb); have n2_ := Aside0.mk (hbox); have n3_ := Aside0.mk ((by rw [hg]; exact (below_size (by exact HBW.out)) : w.heap.size ≤ gb236)); have n4_ := Aside0.mk ((Nat.le_trans HW0.out (by rw [hg]; exact (below_size (by exact HBW.out)) : w.heap.size ≤ gb236) : w0.heap.size ≤ gb236)); clear HBW; clear HB; have HBW := n0_; have HB := n1_; have BK236 := n2_; have GW236 := n3_; have GE236 := n4_; clear n0_ n1_ n2_ n3_ n4_; clear hb hbox hg))
            go_ret
            exact ⟨_, rfl, (show IsS118 w0 _ gb236 l0 0 x3_1 from ⟨_, _, by (with_reducible repeat (first | refine blk_drewN ?_ _ | refine blk_drew ?_ | refine blk_alloc ?_ _)); exact BK236.out, GE236.out, HR0.out⟩), by repeat (first | (with_reducible first | exact HB.out | apply below_alloc | apply pw_below_drewN | apply below_drew1) | exact HB.out), by repeat (first | (with_reducible first | exact HBW.out | apply below_alloc | apply pw_below_drewN | apply below_drew1) | exact HBW.out)⟩

/-! ### spec_DrawWider: function 56 -/
def spec_DrawWider.f (k : Nat) (l0 : List Int) : Option (Fl × Fl) := (spec_l1New.f k l0).bind fun bt238 => ((spec_l4DrawSharp.f k bt238.1 bt238.2.1 bt238.2.2).bind fun bt242 => (some (bt242.1, bt242.2.1)))
theorem spec_DrawWider.mono : ∀ a0 k, LeO (spec_DrawWider.f k a0) (spec_DrawWider.f (k + 1) a0) := by
  intro a0 k
  unfold spec_DrawWider.f
  repeat' first
      | (with_reducible exact spec_l1New.mono _ _)
      | (with_reducible exact spec_l4DrawSharp.mono _ _ _ _)
      | (with_reducible exact LeO.refl _)
      | (with_reducible exact LeO.none _)
      | (with_reducible refine LeO.ite ?_ ?_)
      | (with_reducible refine LeO.bind ?_ (fun _ => ?_))
      | exact spec_l1New.mono _ _
      | exact spec_l4DrawSharp.mono _ _ _ _
      | exact LeO.none _
      | refine LeO.ite ?_ ?_
      | refine LeO.bind ?_ (fun _ => ?_)
set_option maxHeartbeats 8000000 in
set_option maxRecDepth 100000 in
theorem spec_DrawWider.calls (k : Nat) (A0 : Option Addr) (c0 : Nat) (l0 : List Int) (r1 : Fl) (r2 : Fl) (w : World) (hr0 : Kd.C (Kd.int .u8) w A0 l0.length l0) (hc0 : l0.length ≤ c0) (h : spec_DrawWider.f k l0 = some (r1, r2)) :
    Calls Try.prog 56 #[.slice A0 l0.length c0] w fun e w' => ∃ b_r1 b_r2 : Nat, e = .returned (.agg #[.float .f32 b_r1, .float .f32 b_r2]) ∧ cn .f32 b_r1 = r1 ∧ cn .f32 b_r2 = r2 ∧ Below w.heap.size w w' := by
  have hu80 := Try.underlying80
  have HR0 := Aside0.mk hr0
  have HC0 := Aside0.mk hc0
  clear hr0 hc0
  have HB := Aside0.mk (Below.refl w.heap.size w)
  have H : ((spec_l1New.f k l0).bind fun bt238 => ((spec_l4DrawSharp.f k bt238.1 bt238.2.1 bt238.2.2).bind fun bt242 => (some (bt242.1, bt242.2.1)))) = some (r1, r2) := h
  clear h
  replace H := Option.bind_eq_some_iff.mp H
  obtain ⟨⟨t238, t239, t240⟩, A20, H⟩ := H
  replace H : ((spec_l4DrawSharp.f k t238 t239 t240).bind fun bt242 => (some (bt242.1, bt242.2.1))) = some (r1, r2) := H
  have A2 := Aside0.mk A20
  clear A20
  replace H := Option.bind_eq_some_iff.mp H
  obtain ⟨⟨t242, t243, t244, t245⟩, A30, H⟩ := H
  replace H : (some (t242, t243)) = some (r1, r2) := H
  have A3 := Aside0.mk A30
  clear A30
  simp only [Option.some.injEq, Prod.mk.injEq] at H
  obtain ⟨rfl, rfl⟩ := H
  go_enter Try.func56, Try.ntmps56
  go_wp2_with (first | ((with_reducible refine gate_dst (N := 2) rfl ?_); refine box_event ?hg (N := 2) ?hd (cs := #[.float .f32 0, .float .f32 0]) (t := 80) ?hr ?_; (case hd => rfl); (case hg => rfl); (case hr => first | (go_simp; done) | (go_simp; rfl)); intro gb237 hg w4 hbox hb; have n0_ := Aside0.mk (below_step (by exact HB.out) hb); have n1_ := Aside0.mk (hbox); have n2_ := Aside0.mk ((by rw [hg]; exact (below_size (by exact HB.out)) : w.heap.size ≤ gb237)); have n3_ := Aside0.mk ((n2_.out)); clear HB; have HB := n0_; have BK237 := n1_; have GW237 := n2_; have GE237 := n3_; clear n0_ n1_ n2_ n3_; clear hb hbox hg) | ((with_reducible refine gate_callee (f := 85) rfl ?_); refine goesL_ (some 4) rfl rfl Try.func85 (by kernel_rfl) rfl #[.slice A0 l0.length c0] rfl (by (try simp only [List.map_toArray, List.map_cons, List.map_nil]); first | done | rfl | (simp only [List.length_drop, List.length_take]; rfl)) ?_; (with_reducible refine (spec_l1New.calls k _ _ l0 t238 t239 t240 w _ ?side1 ?side2 ?side3 A2.out).mono ?_); (case side1 => exact HB.out); (case side2 => exact HR0.out); (case side3 => exact HC0.out); rintro e w5 ⟨g241, rfl, hi, hb, hb2⟩; refine ⟨_, rfl, ?_⟩; have n0_ := Aside0.mk (blk_below (g := gb237) (o := .cells #[.float .f32 0, .float .f32 0] 80 (0, 0)) (by exact BK237.out) hb2); have n1_ := Aside0.mk (hb); have n2_ := Aside0.mk (hi); have n3_ := Aside0.mk (IsS118.ne_blk hi (blk_below (g := gb237) (o := .cells #[.float .f32 0, .float .f32 0] 80 (0, 0)) (by exact BK237.out) hb2) (by decide)); have n4_ := Aside0.mk (Ne.symm (IsS118.ne_blk hi (blk_below (g := gb237) (o := .cells #[.float .f32 0, .float .f32 0] 80 (0, 0)) (by exact BK237.out) hb2) (by decide))); clear BK237; clear HB; have BK237 := n0_; have HB := n1_; have HI241 := n2_; have NB241_237 := n3_; have NB237_241 := n4_; clear n0_ n1_ n2_ n3_ n4_; (try clear hb); (try clear hb2); (try clear hk); (try clear hi)) | ((with_reducible refine gate_callee (f := 84) rfl ?_); refine goesL_ (some 5) rfl rfl Try.func84 (by kernel_rfl) rfl #[.pointer (some ⟨g241, 0, none⟩)] rfl (by (try simp only [List.map_toArray, List.map_cons, List.map_nil]); first | done | rfl | (simp only [List.length_drop, List.length_take]; rfl)) ?_; (with_reducible refine (spec_l4DrawSharp.calls k g241 t238 t239 t240 t242 t243 t244 t245 w _ ?side1 ?side2 A3.out).mono ?_); (case side1 => repeat (first | (with_reducible first | exact HI241.out | apply IsS118.alloc | apply IsS118.drewN | apply IsS118.drew | apply IsS118.set_1 | apply IsS118.set_2 | refine IsS118.far ?_ NB241_237.out _) | exact HI241.out)); (case side2 => exact HB.out); rintro e w6 ⟨b_t242, b_t243, rfl, hF_t242, hF_t243, hi, hb, hk⟩; refine ⟨_, rfl, ?_⟩; have n0_ := Aside0.mk (KeepBut.blk hk (g' := gb237) (o := .cells #[.float .f32 0, .float .f32 0] 80 (0, 0)) (by exact BK237.out) NB237_241.out (by simp)); have n1_ := Aside0.mk (hb); have n2_ := Aside0.mk (hi); clear BK237; clear HB; clear HI241; have BK237 := n0_; have HB := n1_; have HI241 := n2_; clear n0_ n1_ n2_; (try clear hb); (try clear hb2); (try clear hk); (try clear hi); have hnb7 := NB237_241.out; have hnc7 := NB241_237.out; have hcz8_0 : w6.cell? ⟨gb237, 0, none⟩ = some (.float .f32 0) := (blk_cell BK237.out 0).trans rfl; have hcz8_1 : w6.cell? ⟨gb237, 1, none⟩ = some (.float .f32 0) := (blk_cell BK237.out 1).trans rfl; have hfz8_0 := blk_frozen BK237.out 0; have hfz8_1 := blk_frozen BK237.out 1))
  refine bodyPost_ret (results_cell_row rfl _ _ gb237 80 #[.float .f32 b_t242, .float .f32 b_t243] (0, 0) _ rfl (by (with_reducible repeat (first | refine blk_drewN ?_ _ | refine blk_drew ?_ | refine blk_alloc ?_ _)); refine blk_put (cs := #[.float .f32 b_t242, .float .f32 0]) ?_ 1 _ rfl; (with_reducible repeat (first | refine blk_drewN ?_ _ | refine blk_drew ?_ | refine blk_alloc ?_ _)); refine blk_put (cs := #[.float .f32 0, .float .f32 0]) ?_ 0 _ rfl; (with_reducible repeat (first | refine blk_drewN ?_ _ | refine blk_drew ?_ | refine blk_alloc ?_ _)); exact BK237.out) Try.underlying80 rfl (by kernel_rfl)) rfl ?_
  exact ⟨b_t242, b_t243, by first | rfl | (simp [errW_none, errW_some] <;> rfl) | (simp [*, errW_none, errW_some] <;> rfl), hF_t242, hF_t243, by repeat (first | (with_reducible first | exact HB.out | apply below_alloc | apply pw_below_drewN | apply below_drew1 | refine below_set ?_ (IsS118.ge HI241.out) | refine below_set ?_ GE237.out) | exact HB.out)⟩

/-! ### impl_Sharper: function 57 -/
def impl_Sharper.f (a0_0 : Fl) (a0_1 : Fl) : Option (Fl × Fl) := (fnarr a0_0).bind fun ft248 => ((fnarr a0_1).bind fun ft249 => (some (ft248, ft249)))
set_option maxHeartbeats 8000000 in
set_option maxRecDepth 100000 in
theorem impl_Sharper.calls (b_a0_0 : Nat) (a0_0 : Fl) (b_a0_1 : Nat) (a0_1 : Fl) (r1 : Fl) (r2 : Fl) (w : World) (hF_a0_0 : cn .f64 b_a0_0 = a0_0) (hF_a0_1 : cn .f64 b_a0_1 = a0_1) (h : impl_Sharper.f a0_0 a0_1 = some (r1, r2)) :
    Calls Try.prog 57 #[.agg #[.float .f64 b_a0_0, .float .f64 b_a0_1]] w fun e w' => ∃ b_r1 b_r2 : Nat, e = .returned (.agg #[.float .f32 b_r1, .float .f32 b_r2]) ∧ cn .f32 b_r1 = r1 ∧ cn .f32 b_r2 = r2 ∧ Below w.heap.size w w' := by
  have hu34 := Try.underlying34
  have hu80 := Try.underlying80
  have HB := Aside0.mk (Below.refl w.heap.size w)
  have H : ((fnarr a0_0).bind fun ft248 => ((fnarr a0_1).bind fun ft249 => (some (ft248, ft249)))) = some (r1, r2) := h
  clear h
  replace H := Option.bind_eq_some_iff.mp H
  obtain ⟨ft248, A20, H⟩ := H
  replace H : ((fnarr a0_1).bind fun ft249 => (some (ft248, ft249))) = some (r1, r2) := H
  have A2 := Aside0.mk A20
  clear A20
  replace H := Option.bind_eq_some_iff.mp H
  obtain ⟨ft249, A30, H⟩ := H
  replace H : (some (ft248, ft249)) = some (r1, r2) := H
  have A3 := Aside0.mk A30
  clear A30
  simp only [Option.some.injEq, Prod.mk.injEq] at H
  obtain ⟨rfl, rfl⟩ := H
  go_enter Try.func57, Try.ntmps57
  go_wp2_with (first | ((with_reducible refine gate_dst (N := 1) rfl ?_); refine box_event ?hg (N := 1) ?hd (cs := #[.float .f64 b_a0_0, .float .f64 b_a0_1]) (t := 34) ?hr ?_; (case hd => rfl); (case hg => rfl); (case hr => first | (go_simp; done) | (go_simp; rfl)); intro gb246 hg w4 hbox hb; have n0_ := Aside0.mk (below_step (by exact HB.out) hb); have n1_ := Aside0.mk (hbox); have n2_ := Aside0.mk ((by rw [hg]; exact (below_size (by exact HB.out)) : w.heap.size ≤ gb246)); have n3_ := Aside0.mk ((n2_.out)); clear HB; have HB := n0_; have BK246 := n1_; have GW246 := n2_; have GE246 := n3_; clear n0_ n1_ n2_ n3_; clear hb hbox hg) | ((with_reducible refine gate_dst (N := 2) rfl ?_); refine box_event ?hg (N := 2) ?hd (cs := #[.float .f32 0, .float .f32 0]) (t := 80) ?hr ?_; (case hd => rfl); (case hg => rfl); (case hr => first | (go_simp; done) | (go_simp; rfl)); intro gb247 hg w5 hbox hb; have n0_ := Aside0.mk (blk_below (g := gb246) (o := .cells #[.float .f64 b_a0_0, .float .f64 b_a0_1] 34 (0, 0)) (by exact BK246.out) hb); have n1_ := Aside0.mk (below_step (by exact HB.out) hb); have n2_ := Aside0.mk (hbox); have n3_ := Aside0.mk ((by rw [hg]; exact (below_size (by exact HB.out)) : w.heap.size ≤ gb247)); have n4_ := Aside0.mk ((n3_.out)); have n5_ := Aside0.mk ((by rw [hg]; exact Nat.ne_of_lt (blk_lt (g := gb246) (o := .cells #[.float .f64 b_a0_0, .float .f64 b_a0_1] 34 (0, 0)) (by exact BK246.out)) : gb246 ≠ gb247)); have n6_ := Aside0.mk ((n5_.out.symm)); clear BK246; clear HB; have BK246 := n0_; have HB := n1_; have BK247 := n2_; have GW247 := n3_; have GE247 := n4_; have NB246_247 := n5_; have NB247_246 := n6_; clear n0_ n1_ n2_ n3_ n4_ n5_ n6_; clear hb hbox hg; have hnb6 := NB246_247.out; have hnc6 := NB247_246.out; have hcz7_0 : w5.cell? ⟨gb246, 0, none⟩ = some (.float .f64 b_a0_0) := (blk_cell BK246.out 0).trans rfl; have hcz7_1 : w5.cell? ⟨gb246, 1, none⟩ = some (.float .f64 b_a0_1) := (blk_cell BK246.out 1).trans rfl; have hfz7_0 := blk_frozen BK246.out 0; have hfz7_1 := blk_frozen BK246.out 1) | ((with_reducible refine gate_dst (N := 5) rfl ?_); refine fnarr_event rfl (N := 5) rfl rfl b_a0_0 a0_0 ft248 Try.underlying23 Try.underlying78 rfl hF_a0_0 A2.out ?_; intro b_ft248 nf_ hF_ft248) | ((with_reducible refine gate_dst (N := 8) rfl ?_); refine fnarr_event rfl (N := 8) rfl rfl b_a0_1 a0_1 ft249 Try.underlying23 Try.underlying78 rfl hF_a0_1 A3.out ?_; intro b_ft249 nf_ hF_ft249; have hcz8_0 : w5.cell? ⟨gb247, 0, none⟩ = some (.float .f32 0) := (blk_cell BK247.out 0).trans rfl; have hcz8_1 : w5.cell? ⟨gb247, 1, none⟩ = some (.float .f32 0) := (blk_cell BK247.out 1).trans rfl; have hfz8_0 := blk_frozen BK247.out 0; have hfz8_1 := blk_frozen BK247.out 1))
  refine bodyPost_ret (results_cell_row rfl _ _ gb247 80 #[.float .f32 b_ft248, .float .f32 b_ft249] (0, 0) _ rfl (by (with_reducible repeat (first | refine blk_drewN ?_ _ | refine blk_drew ?_ | refine blk_alloc ?_ _)); refine blk_put (cs := #[.float .f32 b_ft248, .float .f32 0]) ?_ 1 _ rfl; (with_reducible repeat (first | refine blk_drewN ?_ _ | refine blk_drew ?_ | refine blk_alloc ?_ _)); refine blk_put (cs := #[.float .f32 0, .float .f32 0]) ?_ 0 _ rfl; (with_reducible repeat (first | refine blk_drewN ?_ _ | refine blk_drew ?_ | refine blk_alloc ?_ _)); exact BK247.out) Try.underlying80 rfl (by kernel_rfl)) rfl ?_
  exact ⟨b_ft248, b_ft249, by first | rfl | (simp [errW_none, errW_some] <;> rfl) | (simp [*, errW_none, errW_some] <;> rfl), hF_ft248, hF_ft249, by repeat (first | (with_reducible first | exact HB.out | apply below_alloc | apply pw_below_drewN | apply below_drew1 | refine below_set ?_ GE247.out) | exact HB.out)⟩

/-! ### impl_Wider: function 58 -/
def impl_Wider.f (a0_0 : Fl) (a0_1 : Fl) : Option (Fl × Fl) := some ((fwide a0_0), (fwide a0_1))
set_option maxHeartbeats 8000000 in
set_option maxRecDepth 100000 in
theorem impl_Wider.calls (b_a0_0 : Nat) (a0_0 : Fl) (b_a0_1 : Nat) (a0_1 : Fl) (r1 : Fl) (r2 : Fl) (w : World) (hF_a0_0 : cn .f32 b_a0_0 = a0_0) (hF_a0_1 : cn .f32 b_a0_1 = a0_1) (h : impl_Wider.f a0_0 a0_1 = some (r1, r2)) :
    Calls Try.prog 58 #[.agg #[.float .f32 b_a0_0, .float .f32 b_a0_1]] w fun e w' => ∃ b_r1 b_r2 : Nat, e = .returned (.agg #[.float .f64 b_r1, .float .f64 b_r2]) ∧ cn .f64 b_r1 = r1 ∧ cn .f64 b_r2 = r2 ∧ Below w.heap.size w w' := by
  have hu80 := Try.underlying80
  have hu34 := Try.underlying34
  have HB := Aside0.mk (Below.refl w.heap.size w)
  have H : (some ((fwide a0_0), (fwide a0_1))) = some (r1, r2) := h
  clear h
  obtain ⟨ft252, hft252⟩ : ∃ y_ : Fl, y_ = (fwide a0_0) := ⟨_, rfl⟩
  replace H : (some (ft252, (fwide a0_1))) = some (r1, r2) := by first | (rw [hft252]; with_reducible exact H) | (have H2_ := (Option.bind_some _ _).symm.trans H; rw [hft252]; with_reducible exact H2_) | (have H2_ := (Option.bind_some _ _).symm.trans H; with_reducible exact H2_) | with_reducible exact H | (rw [hft252]; exact H) | exact H
  have Nft252 := Aside0.mk hft252
  clear hft252
  obtain ⟨ft253, hft253⟩ : ∃ y_ : Fl, y_ = (fwide a0_1) := ⟨_, rfl⟩
  replace H : (some (ft252, ft253)) = some (r1, r2) := by first | (rw [hft253]; with_reducible exact H) | (have H2_ := (Option.bind_some _ _).symm.trans H; rw [hft253]; with_reducible exact H2_) | (have H2_ := (Option.bind_some _ _).symm.trans H; with_reducible exact H2_) | with_reducible exact H | (rw [hft253]; exact H) | exact H
  have Nft253 := Aside0.mk hft253
  clear hft253
  simp only [Option.some.injEq, Prod.mk.injEq] at H
  obtain ⟨rfl, rfl⟩ := H
  go_enter Try.func58, Try.ntmps58
  go_wp2_with (first | ((with_reducible refine gate_dst (N := 1) rfl ?_); refine box_event ?hg (N := 1) ?hd (cs := #[.float .f32 b_a0_0, .float .f32 b_a0_1]) (t := 80) ?hr ?_; (case hd => rfl); (case hg => rfl); (case hr => first | (go_simp; done) | (go_simp; rfl)); intro gb250 hg w2 hbox hb; have n0_ := Aside0.mk (below_step (by exact HB.out) hb); have n1_ := Aside0.mk (hbox); have n2_ := Aside0.mk ((by rw [hg]; exact (below_size (by exact HB.out)) : w.heap.size ≤ gb250)); have n3_ := Aside0.mk ((n2_.out)); clear HB; have HB := n0_; have BK250 := n1_; have GW250 := n2_; have GE250 := n3_; clear n0_ n1_ n2_ n3_; clear hb hbox hg) | ((with_reducible refine gate_dst (N := 2) rfl ?_); refine box_event ?hg (N := 2) ?hd (cs := #[.float .f64 0, .float .f64 0]) (t := 34) ?hr ?_; (case hd => rfl); (case hg => rfl); (case hr => first | (go_simp; done) | (go_simp; rfl)); intro gb251 hg w3 hbox hb; have n0_ := Aside0.mk (blk_below (g := gb250) (o := .cells #[.float .f32 b_a0_0, .float .f32 b_a0_1] 80 (0, 0)) (by exact BK250.out) hb); have n1_ := Aside0.mk (below_step (by exact HB.out) hb); have n2_ := Aside0.mk (hbox); have n3_ := Aside0.mk ((by rw [hg]; exact (below_size (by exact HB.out)) : w.heap.size ≤ gb251)); have n4_ := Aside0.mk ((n3_.out)); have n5_ := Aside0.mk ((by rw [hg]; exact Nat.ne_of_lt (blk_lt (g := gb250) (o := .cells #[.float .f32 b_a0_0, .float .f32 b_a0_1] 80 (0, 0)) (by exact BK250.out)) : gb250 ≠ gb251)); have n6_ := Aside0.mk ((n5_.out.symm)); clear BK250; clear HB; have BK250 := n0_; have HB := n1_; have BK251 := n2_; have GW251 := n3_; have GE251 := n4_; have NB250_251 := n5_; have NB251_250 := n6_; clear n0_ n1_ n2_ n3_ n4_ n5_ n6_; clear hb hbox hg; have hnb4 := NB250_251.out; have hnc4 := NB251_250.out; have hcz5_0 : w3.cell? ⟨gb250, 0, none⟩ = some (.float .f32 b_a0_0) := (blk_cell BK250.out 0).trans rfl; have hcz5_1 : w3.cell? ⟨gb250, 1, none⟩ = some (.float .f32 b_a0_1) := (blk_cell BK250.out 1).trans rfl; have hfz5_0 := blk_frozen BK250.out 0; have hfz5_1 := blk_frozen BK250.out 1) | ((with_reducible refine gate_dst (N := 5) rfl ?_); refine fwide_event rfl (N := 5) rfl rfl b_a0_0 a0_0 Try.underlying78 Try.underlying23 rfl hF_a0_0 ?_; intro b_ft252 nf_ hF_; replace hF_ := hF_.trans Nft252.out.symm; have hF_ft252 := hF_; clear hF_) | ((with_reducible refine gate_dst (N := 8) rfl ?_); refine fwide_event rfl (N := 8) rfl rfl b_a0_1 a0_1 Try.underlying78 Try.underlying23 rfl hF_a0_1 ?_; intro b_ft253 nf_ hF_; replace hF_ := hF_.trans Nft253.out.symm; have hF_ft253 := hF_; clear hF_; have hcz6_0 : w3.cell? ⟨gb251, 0, none⟩ = some (.float .f64 0) := (blk_cell BK251.out 0).trans rfl; have hcz6_1 : w3.cell? ⟨gb251, 1, none⟩ = some (.float .f64 0) := (blk_cell BK251.out 1).trans rfl; have hfz6_0 := blk_frozen BK251.out 0; have hfz6_1 := blk_frozen BK251.out 1))
  refine bodyPost_ret (results_cell_row rfl _ _ gb251 34 #[.float .f64 b_ft252, .float .f64 b_ft253] (0, 0) _ rfl (by (with_reducible repeat (first | refine blk_drewN ?_ _ | refine blk_drew ?_ | refine blk_alloc ?_ _)); refine blk_put (cs := #[.float .f64 b_ft252, .float .f64 0]) ?_ 1 _ rfl; (with_reducible repeat (first | refine blk_drewN ?_ _ | refine blk_drew ?_ | refine blk_alloc ?_ _)); refine blk_put (cs := #[.float .f64 0, .float .f64 0]) ?_ 0 _ rfl; (with_reducible repeat (first | refine blk_drewN ?_ _ | refine blk_drew ?_ | refine blk_alloc ?_ _)); exact BK251.out) Try.underlying34 rfl (by kernel_rfl)) rfl ?_
  exact ⟨b_ft252, b_ft253, by first | rfl | (simp [errW_none, errW_some] <;> rfl) | (simp [*, errW_none, errW_some] <;> rfl), hF_ft252, hF_ft253, by repeat (first | (with_reducible first | exact HB.out | apply below_alloc | apply pw_below_drewN | apply below_drew1 | refine below_set ?_ GE251.out) | exact HB.out)⟩

/-! ### spec_CxTimes: function 69 -/
def spec_CxTimes.f (a0_0 : Fl) (a0_1 : Fl) (a1_0 : Fl) (a1_1 : Fl) : Option (Fl × Fl) := some ((fop .sub .f64 (fop .mul .f64 a0_0 a1_0) (fop .mul .f64 a0_1 a1_1)), (fop .add .f64 (fop .mul .f64 a0_0 a1_1) (fop .mul .f64 a0_1 a1_0)))
set_option maxHeartbeats 8000000 in
set_option maxRecDepth 100000 in
theorem spec_CxTimes.calls (b_a0_0 : Nat) (a0_0 : Fl) (b_a0_1 : Nat) (a0_1 : Fl) (b_a1_0 : Nat) (a1_0 : Fl) (b_a1_1 : Nat) (a1_1 : Fl) (r1 : Fl) (r2 : Fl) (w : World) (hF_a0_0 : cn .f64 b_a0_0 = a0_0) (hF_a0_1 : cn .f64 b_a0_1 = a0_1) (hF_a1_0 : cn .f64 b_a1_0 = a1_0) (hF_a1_1 : cn .f64 b_a1_1 = a1_1) (h : spec_CxTimes.f a0_0 a0_1 a1_0 a1_1 = some (r1, r2)) :
    Calls Try.prog 69 #[.agg #[.float .f64 b_a0_0, .float .f64 b_a0_1], .agg #[.float .f64 b_a1_0, .float .f64 b_a1_1]] w fun e w' => ∃ b_r1 b_r2 : Nat, e = .returned (.agg #[.float .f64 b_r1, .float .f64 b_r2]) ∧ cn .f64 b_r1 = r1 ∧ cn .f64 b_r2 = r2 ∧ Below w.heap.size w w' := by
  have hu34 := Try.underlying34
  have HB := Aside0.mk (Below.refl w.heap.size w)
  have H : (some ((fop .sub .f64 (fop .mul .f64 a0_0 a1_0) (fop .mul .f64 a0_1 a1_1)), (fop .add .f64 (fop .mul .f64 a0_0 a1_1) (fop .mul .f64 a0_1 a1_0)))) = some (r1, r2) := h
  clear h
  obtain ⟨ft257, hft257⟩ : ∃ y_ : Fl, y_ = (fop .mul .f64 a0_0 a1_0) := ⟨_, rfl⟩
  replace H : (some ((fop .sub .f64 ft257 (fop .mul .f64 a0_1 a1_1)), (fop .add .f64 (fop .mul .f64 a0_0 a1_1) (fop .mul .f64 a0_1 a1_0)))) = some (r1, r2) := by first | (rw [hft257]; with_reducible exact H) | (have H2_ := (Option.bind_some _ _).symm.trans H; rw [hft257]; with_reducible exact H2_) | (have H2_ := (Option.bind_some _ _).symm.trans H; with_reducible exact H2_) | with_reducible exact H | (rw [hft257]; exact H) | exact H
  have Nft257 := Aside0.mk hft257
  clear hft257
  obtain ⟨ft258, hft258⟩ : ∃ y_ : Fl, y_ = (fop .mul .f64 a0_1 a1_1) := ⟨_, rfl⟩
  replace H : (some ((fop .sub .f64 ft257 ft258), (fop .add .f64 (fop .mul .f64 a0_0 a1_1) (fop .mul .f64 a0_1 a1_0)))) = some (r1, r2) := by first | (rw [hft258]; with_reducible exact H) | (have H2_ := (Option.bind_some _ _).symm.trans H; rw [hft258]; with_reducible exact H2_) | (have H2_ := (Option.bind_some _ _).symm.trans H; with_reducible exact H2_) | with_reducible exact H | (rw [hft258]; exact H) | exact H
  have Nft258 := Aside0.mk hft258
  clear hft258
  obtain ⟨ft259, hft259⟩ : ∃ y_ : Fl, y_ = (fop .mul .f64 a0_0 a1_1) := ⟨_, rfl⟩
  replace H : (some ((fop .sub .f64 ft257 ft258), (fop .add .f64 ft259 (fop .mul .f64 a0_1 a1_0)))) = some (r1, r2) := by first | (rw [hft259]; with_reducible exact H) | (have H2_ := (Option.bind_some _ _).symm.trans H; rw [hft259]; with_reducible exact H2_) | (have H2_ := (Option.bind_some _ _).symm.trans H; with_reducible exact H2_) | with_reducible exact H | (rw [hft259]; exact H) | exact H
  have Nft259 := Aside0.mk hft259
  clear hft259
  obtain ⟨ft260, hft260⟩ : ∃ y_ : Fl, y_ = (fop .mul .f64 a0_1 a1_0) := ⟨_, rfl⟩
  replace H : (some ((fop .sub .f64 ft257 ft258), (fop .add .f64 ft259 ft260))) = some (r1, r2) := by first | (rw [hft260]; with_reducible exact H) | (have H2_ := (Option.bind_some _ _).symm.trans H; rw [hft260]; with_reducible exact H2_) | (have H2_ := (Option.bind_some _ _).symm.trans H; with_reducible exact H2_) | with_reducible exact H | (rw [hft260]; exact H) | exact H
  have Nft260 := Aside0.mk hft260
  clear hft260
  obtain ⟨ft261, hft261⟩ : ∃ y_ : Fl, y_ = (fop .sub .f64 ft257 ft258) := ⟨_, rfl⟩
  replace H : (some (ft261, (fop .add .f64 ft259 ft260))) = some (r1, r2) := by first | (rw [hft261]; with_reducible exact H) | (have H2_ := (Option.bind_some _ _).symm.trans H; rw [hft261]; with_reducible exact H2_) | (have H2_ := (Option.bind_some _ _).symm.trans H; with_reducible exact H2_) | with_reducible exact H | (rw [hft261]; exact H) | exact H
  have Nft261 := Aside0.mk hft261
  clear hft261
  obtain ⟨ft262, hft262⟩ : ∃ y_ : Fl, y_ = (fop .add .f64 ft259 ft260) := ⟨_, rfl⟩
  replace H : (some (ft261, ft262)) = some (r1, r2) := by first | (rw [hft262]; with_reducible exact H) | (have H2_ := (Option.bind_some _ _).symm.trans H; rw [hft262]; with_reducible exact H2_) | (have H2_ := (Option.bind_some _ _).symm.trans H; with_reducible exact H2_) | with_reducible exact H | (rw [hft262]; exact H) | exact H
  have Nft262 := Aside0.mk hft262
  clear hft262
  simp only [Option.some.injEq, Prod.mk.injEq] at H
  obtain ⟨rfl, rfl⟩ := H
  go_enter Try.func69, Try.ntmps69
  go_wp2_with (first | ((with_reducible refine gate_dst (N := 2) rfl ?_); refine box_event ?hg (N := 2) ?hd (cs := #[.float .f64 b_a0_0, .float .f64 b_a0_1]) (t := 34) ?hr ?_; (case hd => rfl); (case hg => rfl); (case hr => first | (go_simp; done) | (go_simp; rfl)); intro gb254 hg w3 hbox hb; have n0_ := Aside0.mk (below_step (by exact HB.out) hb); have n1_ := Aside0.mk (hbox); have n2_ := Aside0.mk ((by rw [hg]; exact (below_size (by exact HB.out)) : w.heap.size ≤ gb254)); have n3_ := Aside0.mk ((n2_.out)); clear HB; have HB := n0_; have BK254 := n1_; have GW254 := n2_; have GE254 := n3_; clear n0_ n1_ n2_ n3_; clear hb hbox hg) | ((with_reducible refine gate_dst (N := 3) rfl ?_); refine box_event ?hg (N := 3) ?hd (cs := #[.float .f64 b_a1_0, .float .f64 b_a1_1]) (t := 34) ?hr ?_; (case hd => rfl); (case hg => rfl); (case hr => first | (go_simp; done) | (go_simp; rfl)); intro gb255 hg w4 hbox hb; have n0_ := Aside0.mk (blk_below (g := gb254) (o := .cells #[.float .f64 b_a0_0, .float .f64 b_a0_1] 34 (0, 0)) (by exact BK254.out) hb); have n1_ := Aside0.mk (below_step (by exact HB.out) hb); have n2_ := Aside0.mk (hbox); have n3_ := Aside0.mk ((by rw [hg]; exact (below_size (by exact HB.out)) : w.heap.size ≤ gb255)); have n4_ := Aside0.mk ((n3_.out)); have n5_ := Aside0.mk ((by rw [hg]; exact Nat.ne_of_lt (blk_lt (g := gb254) (o := .cells #[.float .f64 b_a0_0, .float .f64 b_a0_1] 34 (0, 0)) (by exact BK254.out)) : gb254 ≠ gb255)); have n6_ := Aside0.mk ((n5_.out.symm)); clear BK254; clear HB; have BK254 := n0_; have HB := n1_; have BK255 := n2_; have GW255 := n3_; have GE255 := n4_; have NB254_255 := n5_; have NB255_254 := n6_; clear n0_ n1_ n2_ n3_ n4_ n5_ n6_; clear hb hbox hg) | ((with_reducible refine gate_dst (N := 4) rfl ?_); refine box_event ?hg (N := 4) ?hd (cs := #[.float .f64 0, .float .f64 0]) (t := 34) ?hr ?_; (case hd => rfl); (case hg => rfl); (case hr => first | (go_simp; done) | (go_simp; rfl)); intro gb256 hg w5 hbox hb; have n0_ := Aside0.mk (blk_below (g := gb254) (o := .cells #[.float .f64 b_a0_0, .float .f64 b_a0_1] 34 (0, 0)) (by exact BK254.out) hb); have n1_ := Aside0.mk (blk_below (g := gb255) (o := .cells #[.float .f64 b_a1_0, .float .f64 b_a1_1] 34 (0, 0)) (by exact BK255.out) hb); have n2_ := Aside0.mk (below_step (by exact HB.out) hb); have n3_ := Aside0.mk (hbox); have n4_ := Aside0.mk ((by rw [hg]; exact (below_size (by exact HB.out)) : w.heap.size ≤ gb256)); have n5_ := Aside0.mk ((n4_.out)); have n6_ := Aside0.mk ((by rw [hg]; exact Nat.ne_of_lt (blk_lt (g := gb254) (o := .cells #[.float .f64 b_a0_0, .float .f64 b_a0_1] 34 (0, 0)) (by exact BK254.out)) : gb254 ≠ gb256)); have n7_ := Aside0.mk ((n6_.out.symm)); have n8_ := Aside0.mk ((by rw [hg]; exact Nat.ne_of_lt (blk_lt (g := gb255) (o := .cells #[.float .f64 b_a1_0, .float .f64 b_a1_1] 34 (0, 0)) (by exact BK255.out)) : gb255 ≠ gb256)); have n9_ := Aside0.mk ((n8_.out.symm)); clear BK254; clear BK255; clear HB; have BK254 := n0_; have BK255 := n1_; have HB := n2_; have BK256 := n3_; have GW256 := n4_; have GE256 := n5_; have NB254_256 := n6_; have NB256_254 := n7_; have NB255_256 := n8_; have NB256_255 := n9_; clear n0_ n1_ n2_ n3_ n4_ n5_ n6_ n7_ n8_ n9_; clear hb hbox hg; have hnb6 := NB254_255.out; have hnc6 := NB255_254.out; have hnb7 := NB254_256.out; have hnc7 := NB256_254.out; have hcz8_0 : w5.cell? ⟨gb254, 0, none⟩ = some (.float .f64 b_a0_0) := (blk_cell BK254.out 0).trans rfl; have hcz8_1 : w5.cell? ⟨gb254, 1, none⟩ = some (.float .f64 b_a0_1) := (blk_cell BK254.out 1).trans rfl; have hfz8_0 := blk_frozen BK254.out 0; have hfz8_1 := blk_frozen BK254.out 1; have hnb9 := NB255_256.out; have hnc9 := NB256_255.out; have hcz10_0 : w5.cell? ⟨gb255, 0, none⟩ = some (.float .f64 b_a1_0) := (blk_cell BK255.out 0).trans rfl; have hcz10_1 : w5.cell? ⟨gb255, 1, none⟩ = some (.float .f64 b_a1_1) := (blk_cell BK255.out 1).trans rfl; have hfz10_0 := blk_frozen BK255.out 0; have hfz10_1 := blk_frozen BK255.out 1) | ((with_reducible refine gate_dst (N := 13) rfl ?_); refine fop_event rfl (N := 13) rfl (op := .mul) (by simp) rfl .f64 b_a0_0 b_a1_0 a0_0 a1_0 rfl rfl hF_a0_0 hF_a1_0 ?_; intro b_ft257 nf_ hF_; replace hF_ := hF_.trans Nft257.out.symm; have hF_ft257 := hF_; clear hF_) | ((with_reducible refine gate_dst (N := 18) rfl ?_); refine fop_event rfl (N := 18) rfl (op := .mul) (by simp) rfl .f64 b_a0_1 b_a1_1 a0_1 a1_1 rfl rfl hF_a0_1 hF_a1_1 ?_; intro b_ft258 nf_ hF_; replace hF_ := hF_.trans Nft258.out.symm; have hF_ft258 := hF_; clear hF_) | ((with_reducible refine gate_dst (N := 23) rfl ?_); refine fop_event rfl (N := 23) rfl (op := .mul) (by simp) rfl .f64 b_a0_0 b_a1_1 a0_0 a1_1 rfl rfl hF_a0_0 hF_a1_1 ?_; intro b_ft259 nf_ hF_; replace hF_ := hF_.trans Nft259.out.symm; have hF_ft259 := hF_; clear hF_) | ((with_reducible refine gate_dst (N := 28) rfl ?_); refine fop_event rfl (N := 28) rfl (op := .mul) (by simp) rfl .f64 b_a0_1 b_a1_0 a0_1 a1_0 rfl rfl hF_a0_1 hF_a1_0 ?_; intro b_ft260 nf_ hF_; replace hF_ := hF_.trans Nft260.out.symm; have hF_ft260 := hF_; clear hF_) | ((with_reducible refine gate_dst (N := 31) rfl ?_); refine fop_event rfl (N := 31) rfl (op := .sub) (by simp) rfl .f64 b_ft257 b_ft258 ft257 ft258 rfl rfl hF_ft257 hF_ft258 ?_; intro b_ft261 nf_ hF_; replace hF_ := hF_.trans Nft261.out.symm; have hF_ft261 := hF_; clear hF_) | ((with_reducible refine gate_dst (N := 34) rfl ?_); refine fop_event rfl (N := 34) rfl (op := .add) (by simp) rfl .f64 b_ft259 b_ft260 ft259 ft260 rfl rfl hF_ft259 hF_ft260 ?_; intro b_ft262 nf_ hF_; replace hF_ := hF_.trans Nft262.out.symm; have hF_ft262 := hF_; clear hF_; have hcz11_0 : w5.cell? ⟨gb256, 0, none⟩ = some (.float .f64 0) := (blk_cell BK256.out 0).trans rfl; have hcz11_1 : w5.cell? ⟨gb256, 1, none⟩ = some (.float .f64 0) := (blk_cell BK256.out 1).trans rfl; have hfz11_0 := blk_frozen BK256.out 0; have hfz11_1 := blk_frozen BK256.out 1))
  refine bodyPost_ret (results_cell_row rfl _ _ gb256 34 #[.float .f64 b_ft261, .float .f64 b_ft262] (0, 0) _ rfl (by (with_reducible repeat (first | refine blk_drewN ?_ _ | refine blk_drew ?_ | refine blk_alloc ?_ _)); refine blk_put (cs := #[.float .f64 b_ft261, .float .f64 0]) ?_ 1 _ rfl; (with_reducible repeat (first | refine blk_drewN ?_ _ | refine blk_drew ?_ | refine blk_alloc ?_ _)); refine blk_put (cs := #[.float .f64 0, .float .f64 0]) ?_ 0 _ rfl; (with_reducible repeat (first | refine blk_drewN ?_ _ | refine blk_drew ?_ | refine blk_alloc ?_ _)); exact BK256.out) Try.underlying34 rfl (by kernel_rfl)) rfl ?_
  exact ⟨b_ft261, b_ft262, by first | rfl | (simp [errW_none, errW_some] <;> rfl) | (simp [*, errW_none, errW_some] <;> rfl), hF_ft261, hF_ft262, by repeat (first | (with_reducible first | exact HB.out | apply below_alloc | apply pw_below_drewN | apply below_drew1 | refine below_set ?_ GE256.out) | exact HB.out)⟩

/-! ### spec_Wider: function 100 -/
def spec_Wider.f (a0_0 : Fl) (a0_1 : Fl) : Option (Fl × Fl) := some ((fwide a0_0), (fwide a0_1))
set_option maxHeartbeats 8000000 in
set_option maxRecDepth 100000 in
theorem spec_Wider.calls (b_a0_0 : Nat) (a0_0 : Fl) (b_a0_1 : Nat) (a0_1 : Fl) (r1 : Fl) (r2 : Fl) (w : World) (hF_a0_0 : cn .f32 b_a0_0 = a0_0) (hF_a0_1 : cn .f32 b_a0_1 = a0_1) (h : spec_Wider.f a0_0 a0_1 = some (r1, r2)) :
    Calls Try.prog 100 #[.agg #[.float .f32 b_a0_0, .float .f32 b_a0_1]] w fun e w' => ∃ b_r1 b_r2 : Nat, e = .returned (.agg #[.float .f64 b_r1, .float .f64 b_r2]) ∧ cn .f64 b_r1 = r1 ∧ cn .f64 b_r2 = r2 ∧ Below w.heap.size w w' := by
  have hu80 := Try.underlying80
  have hu34 := Try.underlying34
  have HB := Aside0.mk (Below.refl w.heap.size w)
  have H : (some ((fwide a0_0), (fwide a0_1))) = some (r1, r2) := h
  clear h
  obtain ⟨ft265, hft265⟩ : ∃ y_ : Fl, y_ = (fwide a0_0) := ⟨_, rfl⟩
  replace H : (some (ft265, (fwide a0_1))) = some (r1, r2) := by first | (rw [hft265]; with_reducible exact H) | (have H2_ := (Option.bind_some _ _).symm.trans H; rw [hft265]; with_reducible exact H2_) | (have H2_ := (Option.bind_some _ _).symm.trans H; with_reducible exact H2_) | with_reducible exact H | (rw [hft265]; exact H) | exact H
  have Nft265 := Aside0.mk hft265
  clear hft265
  obtain ⟨ft266, hft266⟩ : ∃ y_ : Fl, y_ = (fwide a0_1) := ⟨_, rfl⟩
  replace H : (some (ft265, ft266)) = some (r1, r2) := by first | (rw [hft266]; with_reducible exact H) | (have H2_ := (Option.bind_some _ _).symm.trans H; rw [hft266]; with_reducible exact H2_) | (have H2_ := (Option.bind_some _ _).symm.trans H; with_reducible exact H2_) | with_reducible exact H | (rw [hft266]; exact H) | exact H
  have Nft266 := Aside0.mk hft266
  clear hft266
  simp only [Option.some.injEq, Prod.mk.injEq] at H
  obtain ⟨rfl, rfl⟩ := H
  go_enter Try.func100, Try.ntmps100
  go_wp2_with (first | ((with_reducible refine gate_dst (N := 1) rfl ?_); refine box_event ?hg (N := 1) ?hd (cs := #[.float .f32 b_a0_0, .float .f32 b_a0_1]) (t := 80) ?hr ?_; (case hd => rfl); (case hg => rfl); (case hr => first | (go_simp; done) | (go_simp; rfl)); intro gb263 hg w2 hbox hb; have n0_ := Aside0.mk (below_step (by exact HB.out) hb); have n1_ := Aside0.mk (hbox); have n2_ := Aside0.mk ((by rw [hg]; exact (below_size (by exact HB.out)) : w.heap.size ≤ gb263)); have n3_ := Aside0.mk ((n2_.out)); clear HB; have HB := n0_; have BK263 := n1_; have GW263 := n2_; have GE263 := n3_; clear n0_ n1_ n2_ n3_; clear hb hbox hg) | ((with_reducible refine gate_dst (N := 2) rfl ?_); refine box_event ?hg (N := 2) ?hd (cs := #[.float .f64 0, .float .f64 0]) (t := 34) ?hr ?_; (case hd => rfl); (case hg => rfl); (case hr => first | (go_simp; done) | (go_simp; rfl)); intro gb264 hg w3 hbox hb; have n0_ := Aside0.mk (blk_below (g := gb263) (o := .cells #[.float .f32 b_a0_0, .float .f32 b_a0_1] 80 (0, 0)) (by exact BK263.out) hb); have n1_ := Aside0.mk (below_step (by exact HB.out) hb); have n2_ := Aside0.mk (hbox); have n3_ := Aside0.mk ((by rw [hg]; exact (below_size (by exact HB.out)) : w.heap.size ≤ gb264)); have n4_ := Aside0.mk ((n3_.out)); have n5_ := Aside0.mk ((by rw [hg]; exact Nat.ne_of_lt (blk_lt (g := gb263) (o := .cells #[.float .f32 b_a0_0, .float .f32 b_a0_1] 80 (0, 0)) (by exact BK263.out)) : gb263 ≠ gb264)); have n6_ := Aside0.mk ((n5_.out.symm)); clear BK263; clear HB; have BK263 := n0_; have HB := n1_; have BK264 := n2_; have GW264 := n3_; have GE264 := n4_; have NB263_264 := n5_; have NB264_263 := n6_; clear n0_ n1_ n2_ n3_ n4_ n5_ n6_; clear hb hbox hg; have hnb4 := NB263_264.out; have hnc4 := NB264_263.out; have hcz5_0 : w3.cell? ⟨gb263, 0, none⟩ = some (.float .f32 b_a0_0) := (blk_cell BK263.out 0).trans rfl; have hcz5_1 : w3.cell? ⟨gb263, 1, none⟩ = some (.float .f32 b_a0_1) := (blk_cell BK263.out 1).trans rfl; have hfz5_0 := blk_frozen BK263.out 0; have hfz5_1 := blk_frozen BK263.out 1) | ((with_reducible refine gate_dst (N := 5) rfl ?_); refine fwide_event rfl (N := 5) rfl rfl b_a0_0 a0_0 Try.underlying78 Try.underlying23 rfl hF_a0_0 ?_; intro b_ft265 nf_ hF_; replace hF_ := hF_.trans Nft265.out.symm; have hF_ft265 := hF_; clear hF_) | ((with_reducible refine gate_dst (N := 8) rfl ?_); refine fwide_event rfl (N := 8) rfl rfl b_a0_1 a0_1 Try.underlying78 Try.underlying23 rfl hF_a0_1 ?_; intro b_ft266 nf_ hF_; replace hF_ := hF_.trans Nft266.out.symm; have hF_ft266 := hF_; clear hF_; have hcz6_0 : w3.cell? ⟨gb264, 0, none⟩ = some (.float .f64 0) := (blk_cell BK264.out 0).trans rfl; have hcz6_1 : w3.cell? ⟨gb264, 1, none⟩ = some (.float .f64 0) := (blk_cell BK264.out 1).trans rfl; have hfz6_0 := blk_frozen BK264.out 0; have hfz6_1 := blk_frozen BK264.out 1))
  refine bodyPost_ret (results_cell_row rfl _ _ gb264 34 #[.float .f64 b_ft265, .float .f64 b_ft266] (0, 0) _ rfl (by (with_reducible repeat (first | refine blk_drewN ?_ _ | refine blk_drew ?_ | refine blk_alloc ?_ _)); refine blk_put (cs := #[.float .f64 b_ft265, .float .f64 0]) ?_ 1 _ rfl; (with_reducible repeat (first | refine blk_drewN ?_ _ | refine blk_drew ?_ | refine blk_alloc ?_ _)); refine blk_put (cs := #[.float .f64 0, .float .f64 0]) ?_ 0 _ rfl; (with_reducible repeat (first | refine blk_drewN ?_ _ | refine blk_drew ?_ | refine blk_alloc ?_ _)); exact BK264.out) Try.underlying34 rfl (by kernel_rfl)) rfl ?_
  exact ⟨b_ft265, b_ft266, by first | rfl | (simp [errW_none, errW_some] <;> rfl) | (simp [*, errW_none, errW_some] <;> rfl), hF_ft265, hF_ft266, by repeat (first | (with_reducible first | exact HB.out | apply below_alloc | apply pw_below_drewN | apply below_drew1 | refine below_set ?_ GE264.out) | exact HB.out)⟩

/-! ### spec_l4DrawCx: function 96 -/
def spec_l4DrawCx.f (k : Nat) (s0_0 : List Int) (s0_1 : Int) (s0_2 : Int) : Option (Fl × Fl × Int × Int) := (spec_l4DrawSharp.f k s0_0 s0_1 s0_2).bind fun bt268 => ((spec_Wider.f bt268.1 bt268.2.1).bind fun bt272 => ((spec_l1Once.f s0_0 bt268.2.2.1 bt268.2.2.2 3).bind fun bt275 => (if bt275.1 = true then ((spec_l4DrawSharp.f k s0_0 bt275.2.1 bt275.2.2).bind fun bt278 => ((spec_Wider.f bt278.1 bt278.2.1).bind fun bt282 => ((spec_CxTimes.f bt272.1 bt272.2 bt282.1 bt282.2).bind fun bt284 => (some (bt284.1, bt284.2, bt278.2.2.1, bt278.2.2.2))))) else (some (bt272.1, bt272.2, bt275.2.1, bt275.2.2)))))
theorem spec_l4DrawCx.mono : ∀ a0 a1 a2 k, LeO (spec_l4DrawCx.f k a0 a1 a2) (spec_l4DrawCx.f (k + 1) a0 a1 a2) := by
  intro a0 a1 a2 k
  unfold spec_l4DrawCx.f
  repeat' first
      | (with_reducible exact spec_l4DrawSharp.mono _ _ _ _)
      | (with_reducible exact LeO.refl _)
      | (with_reducible exact LeO.none _)
      | (with_reducible refine LeO.ite ?_ ?_)
      | (with_reducible refine LeO.bind ?_ (fun _ => ?_))
      | exact spec_l4DrawSharp.mono _ _ _ _
      | exact LeO.none _
      | refine LeO.ite ?_ ?_
      | refine LeO.bind ?_ (fun _ => ?_)
set_option maxHeartbeats 8000000 in
set_option maxRecDepth 100000 in
theorem spec_l4DrawCx.calls (k : Nat) (g : Nat) (s0_0 : List Int) (s0_1 : Int) (s0_2 : Int) (r1 : Fl) (r2 : Fl) (r3 : Int) (r4 : Int) (w0 w : World) (hI : IsS118 w0 w g s0_0 s0_1 s0_2) (hB : Below w0.heap.size w0 w) (h : spec_l4DrawCx.f k s0_0 s0_1 s0_2 = some (r1, r2, r3, r4)) :
    Calls Try.prog 96 #[.pointer (some ⟨g, 0, none⟩)] w fun e w' => ∃ b_r1 b_r2 : Nat, e = .returned (.agg #[.float .f64 b_r1, .float .f64 b_r2]) ∧ cn .f64 b_r1 = r1 ∧ cn .f64 b_r2 = r2 ∧ IsS118 w0 w' g s0_0 r3 r4 ∧ Below w0.heap.size w0 w' ∧ KeepBut w w' g none := by
  have hu34 := Try.underlying34
  have HI0 := Aside0.mk hI
  have HK := Aside0.mk (KeepBut.refl w g none)
  have HL := Aside0.mk hB.size
  clear hI
  have HW0 := Aside0.mk hB.size
  have HB := Aside0.mk hB
  clear hB
  have H : ((spec_l4DrawSharp.f k s0_0 s0_1 s0_2).bind fun bt268 => ((spec_Wider.f bt268.1 bt268.2.1).bind fun bt272 => ((spec_l1Once.f s0_0 bt268.2.2.1 bt268.2.2.2 3).bind fun bt275 => (if bt275.1 = true then ((spec_l4DrawSharp.f k s0_0 bt275.2.1 bt275.2.2).bind fun bt278 => ((spec_Wider.f bt278.1 bt278.2.1).bind fun bt282 => ((spec_CxTimes.f bt272.1 bt272.2 bt282.1 bt282.2).bind fun bt284 => (some (bt284.1, bt284.2, bt278.2.2.1, bt278.2.2.2))))) else (some (bt272.1, bt272.2, bt275.2.1, bt275.2.2)))))) = some (r1, r2, r3, r4) := h
  clear h
  replace H := Option.bind_eq_some_iff.mp H
  obtain ⟨⟨t268, t269, t270, t271⟩, A20, H⟩ := H
  replace H : ((spec_Wider.f t268 t269).bind fun bt272 => ((spec_l1Once.f s0_0 t270 t271 3).bind fun bt275 => (if bt275.1 = true then ((spec_l4DrawSharp.f k s0_0 bt275.2.1 bt275.2.2).bind fun bt278 => ((spec_Wider.f bt278.1 bt278.2.1).bind fun bt282 => ((spec_CxTimes.f bt272.1 bt272.2 bt282.1 bt282.2).bind fun bt284 => (some (bt284.1, bt284.2, bt278.2.2.1, bt278.2.2.2))))) else (some (bt272.1, bt272.2, bt275.2.1, bt275.2.2))))) = some (r1, r2, r3, r4) := H
  have A2 := Aside0.mk A20
  clear A20
  replace H := Option.bind_eq_some_iff.mp H
  obtain ⟨⟨t272, t273⟩, A30, H⟩ := H
  replace H : ((spec_l1Once.f s0_0 t270 t271 3).bind fun bt275 => (if bt275.1 = true then ((spec_l4DrawSharp.f k s0_0 bt275.2.1 bt275.2.2).bind fun bt278 => ((spec_Wider.f bt278.1 bt278.2.1).bind fun bt282 => ((spec_CxTimes.f t272 t273 bt282.1 bt282.2).bind fun bt284 => (some (bt284.1, bt284.2, bt278.2.2.1, bt278.2.2.2))))) else (some (t272, t273, bt275.2.1, bt275.2.2)))) = some (r1, r2, r3, r4) := H
  have A3 := Aside0.mk A30
  clear A30
  replace H := Option.bind_eq_some_iff.mp H
  obtain ⟨⟨t275, t276, t277⟩, A40, H⟩ := H
  replace H : (if t275 = true then ((spec_l4DrawSharp.f k s0_0 t276 t277).bind fun bt278 => ((spec_Wider.f bt278.1 bt278.2.1).bind fun bt282 => ((spec_CxTimes.f t272 t273 bt282.1 bt282.2).bind fun bt284 => (some (bt284.1, bt284.2, bt278.2.2.1, bt278.2.2.2))))) else (some (t272, t273, t276, t277))) = some (r1, r2, r3, r4) := H
  have A4 := Aside0.mk A40
  clear A40
  by_cases c5 : t275 = true
  · subst c5
    have H1 : ((spec_l4DrawSharp.f k s0_0 t276 t277).bind fun bt278 => ((spec_Wider.f bt278.1 bt278.2.1).bind fun bt282 => ((spec_CxTimes.f t272 t273 bt282.1 bt282.2).bind fun bt284 => (some (bt284.1, bt284.2, bt278.2.2.1, bt278.2.2.2))))) = some (r1, r2, r3, r4) := by rw [if_pos rfl] at H; exact H
    clear H
    have H := H1
    clear H1
    replace H := Option.bind_eq_some_iff.mp H
    obtain ⟨⟨t278, t279, t280, t281⟩, A60, H⟩ := H
    replace H : ((spec_Wider.f t278 t279).bind fun bt282 => ((spec_CxTimes.f t272 t273 bt282.1 bt282.2).bind fun bt284 => (some (bt284.1, bt284.2, t280, t281)))) = some (r1, r2, r3, r4) := H
    have A6 := Aside0.mk A60
    clear A60
    replace H := Option.bind_eq_some_iff.mp H
    obtain ⟨⟨t282, t283⟩, A70, H⟩ := H
    replace H : ((spec_CxTimes.f t272 t273 t282 t283).bind fun bt284 => (some (bt284.1, bt284.2, t280, t281))) = some (r1, r2, r3, r4) := H
    have A7 := Aside0.mk A70
    clear A70
    replace H := Option.bind_eq_some_iff.mp H
    obtain ⟨⟨t284, t285⟩, A80, H⟩ := H
    replace H : (some (t284, t285, t280, t281)) = some (r1, r2, r3, r4) := H
    have A8 := Aside0.mk A80
    clear A80
    simp only [Option.some.injEq, Prod.mk.injEq] at H
    obtain ⟨rfl, rfl, rfl, rfl⟩ := H
    go_enter Try.func96, Try.ntmps96
    try go_wp2_with (first | ((with_reducible refine gate_dst (N := 2) rfl ?_); refine box_event ?hg (N := 2) ?hd (cs := #[.float .f64 0, .float .f64 0]) (t := 34) ?hr ?_; (case hd => rfl); (case hg => rfl); (case hr => first | (go_simp; done) | (go_simp; rfl)); intro gb267 hg w9 hbox hb; have n0_ := Aside0.mk (IsS118.below (by repeat (first | (with_reducible first | exact HI0.out | apply IsS118.alloc | apply IsS118.drewN | apply IsS118.drew | apply IsS118.set_1 | apply IsS118.set_2) | exact HI0.out)) hb); have n1_ := Aside0.mk (KeepBut.trans (by repeat (first | (with_reducible first | exact HK.out | apply KeepBut.set_ | apply keep_drewN | apply keep_drew | apply keep_alloc) | exact HK.out)) (KeepBut.of_below hb g none) (.inl rfl)); have n2_ := Aside0.mk (below_step (by exact HB.out) hb); have n3_ := Aside0.mk (hbox); have n4_ := Aside0.mk ((by rw [hg]; exact (keep_size (w := w) (g := g) (row := none) (by repeat (first | (with_reducible first | exact HK.out | apply KeepBut.set_ | apply keep_drewN | apply keep_drew | apply keep_alloc) | exact HK.out))) : w.heap.size ≤ gb267)); have n5_ := Aside0.mk ((Nat.le_trans HW0.out (by rw [hg]; exact (keep_size (w := w) (g := g) (row := none) (by repeat (first | (with_reducible first | exact HK.out | apply KeepBut.set_ | apply keep_drewN | apply keep_drew | apply keep_alloc) | exact HK.out))) : w.heap.size ≤ gb267) : w0.heap.size ≤ gb267)); have n6_ := Aside0.mk ((by rw [hg]; exact Nat.ne_of_lt (IsS118.lt (show IsS118 w0 _ g s0_0 s0_1 s0_2 from by repeat (first | (with_reducible first | exact HI0.out | apply IsS118.alloc | apply IsS118.drewN | apply IsS118.drew | apply IsS118.set_1 | apply IsS118.set_2) | exact HI0.out))) : g ≠ gb267)); have n7_ := Aside0.mk ((by rw [hg]; exact Nat.ne_of_gt (IsS118.lt (show IsS118 w0 _ g s0_0 s0_1 s0_2 from by repeat (first | (with_reducible first | exact HI0.out | apply IsS118.alloc | apply IsS118.drewN | apply IsS118.drew | apply IsS118.set_1 | apply IsS118.set_2) | exact HI0.out))) : gb267 ≠ g)); clear HI0; clear HK; clear HB; have HI0 := n0_; have HK := n1_; have HB := n2_; have BK267 := n3_; have GW267 := n4_; have GE267 := n5_; have NB0_267 := n6_; have NB267_0 := n7_; clear n0_ n1_ n2_ n3_ n4_ n5_ n6_ n7_; clear hb hbox hg) | ((with_reducible refine gate_callee (f := 84) rfl ?_); refine goesL_ (some 5) rfl rfl Try.func84 (by kernel_rfl) rfl #[.pointer (some ⟨g, 0, none⟩)] rfl (by (try simp only [List.map_toArray, List.map_cons, List.map_nil]); first | done | rfl | (simp only [List.length_drop, List.length_take]; rfl)) ?_; (with_reducible refine (spec_l4DrawSharp.calls k g s0_0 s0_1 s0_2 t268 t269 t270 t271 w0 _ ?side1 ?side2 A2.out).mono ?_); (case side1 => repeat (first | (with_reducible first | exact HI0.out | apply IsS118.alloc | apply IsS118.drewN | apply IsS118.drew | apply IsS118.set_1 | apply IsS118.set_2 | refine IsS118.far ?_ NB0_267.out _) | exact HI0.out)); (case side2 => exact HB.out); rintro e w10 ⟨b_t268, b_t269, rfl, hF_t268, hF_t269, hi, hb, hk⟩; refine ⟨_, rfl, ?_⟩; have n0_ := Aside0.mk (KeepBut.blk hk (g' := gb267) (o := .cells #[.float .f64 0, .float .f64 0] 34 (0, 0)) (by exact BK267.out) NB267_0.out (by simp)); have n1_ := Aside0.mk (KeepBut.trans (by repeat (first | (with_reducible first | exact HK.out | apply KeepBut.set_ | apply keep_drewN | apply keep_drew | apply keep_alloc | refine keep_far ?_ GW267.out _) | exact HK.out)) hk (.inl rfl)); have n2_ := Aside0.mk (hb); have n3_ := Aside0.mk (hi); clear BK267; clear HK; clear HB; clear HI0; have BK267 := n0_; have HK := n1_; have HB := n2_; have HI0 := n3_; clear n0_ n1_ n2_ n3_; (try clear hb); (try clear hb2); (try clear hk); (try clear hi)) | ((with_reducible refine gate_callee (f := 100) rfl ?_); refine goesL_ (some 6) rfl rfl Try.func100 (by kernel_rfl) rfl #[.agg #[.float .f32 b_t268, .float .f32 b_t269]] rfl (by (try simp only [List.map_toArray, List.map_cons, List.map_nil]); first | done | rfl | (simp only [List.length_drop, List.length_take]; rfl)) ?_; (with_reducible refine (spec_Wider.calls b_t268 t268 b_t269 t269 t272 t273 _ ?side1 ?side2 A3.out).mono ?_); (case side1 => exact hF_t268); (case side2 => exact hF_t269); rintro e w11 ⟨b_t272, b_t273, rfl, hF_t272, hF_t273, hb⟩; refine ⟨_, rfl, ?_⟩; have n0_ := Aside0.mk (IsS118.below (by repeat (first | (with_reducible first | exact HI0.out | apply IsS118.alloc | apply IsS118.drewN | apply IsS118.drew | apply IsS118.set_1 | apply IsS118.set_2 | refine IsS118.far ?_ NB0_267.out _) | exact HI0.out)) hb); have n1_ := Aside0.mk (blk_below (g := gb267) (o := .cells #[.float .f64 0, .float .f64 0] 34 (0, 0)) (by exact BK267.out) hb); have n2_ := Aside0.mk (KeepBut.trans (by repeat (first | (with_reducible first | exact HK.out | apply KeepBut.set_ | apply keep_drewN | apply keep_drew | apply keep_alloc | refine keep_far ?_ GW267.out _) | exact HK.out)) (KeepBut.of_below hb g none) (.inl rfl)); have n3_ := Aside0.mk (below_step (by exact HB.out) hb); clear HI0; clear BK267; clear HK; clear HB; have HI0 := n0_; have BK267 := n1_; have HK := n2_; have HB := n3_; clear n0_ n1_ n2_ n3_; (try clear hb); (try clear hb2); (try clear hk); (try clear hi)) | ((with_reducible refine gate_dst (N := 3) rfl ?_); refine box_event ?hg (N := 3) ?hd (cs := #[.float .f64 0, .float .f64 0]) (t := 34) ?hr ?_; (case hd => rfl); (case hg => rfl); (case hr => first | (go_simp; done) | (go_simp; rfl)); intro gb274 hg w12 hbox hb; have n0_ := Aside0.mk (IsS118.below (by repeat (first | (with_reducible first | exact HI0.out | apply IsS118.alloc | apply IsS118.drewN | apply IsS118.drew | apply IsS118.set_1 | apply IsS118.set_2 | refine IsS118.far ?_ NB0_267.out _) | exact HI0.out)) hb); have n1_ := Aside0.mk (blk_below (g := gb267) (o := .cells #[.float .f64 0, .float .f64 0] 34 (0, 0)) (by exact BK267.out) hb); have n2_ := Aside0.mk (KeepBut.trans (by repeat (first | (with_reducible first | exact HK.out | apply KeepBut.set_ | apply keep_drewN | apply keep_drew | apply keep_alloc | refine keep_far ?_ GW267.out _) | exact HK.out)) (KeepBut.of_below hb g none) (.inl rfl)); have n3_ := Aside0.mk (below_step (by exact HB.out) hb); have n4_ := Aside0.mk (hbox); have n5_ := Aside0.mk ((by rw [hg]; exact (keep_size (w := w) (g := g) (row := none) (by repeat (first | (with_reducible first | exact HK.out | apply KeepBut.set_ | apply keep_drewN | apply keep_drew | apply keep_alloc | refine keep_far ?_ GW267.out _) | exact HK.out))) : w.heap.size ≤ gb274)); have n6_ := Aside0.mk ((Nat.le_trans HW0.out (by rw [hg]; exact (keep_size (w := w) (g := g) (row := none) (by repeat (first | (with_reducible first | exact HK.out | apply KeepBut.set_ | apply keep_drewN | apply keep_drew | apply keep_alloc | refine keep_far ?_ GW267.out _) | exact HK.out))) : w.heap.size ≤ gb274) : w0.heap.size ≤ gb274)); have n7_ := Aside0.mk ((by rw [hg]; exact Nat.ne_of_lt (blk_lt (g := gb267) (o := .cells #[.float .f64 0, .float .f64 0] 34 (0, 0)) (by exact BK267.out)) : gb267 ≠ gb274)); have n8_ := Aside0.mk ((n7_.out.symm)); have n9_ := Aside0.mk ((by rw [hg]; exact Nat.ne_of_lt (IsS118.lt (show IsS118 w0 _ g s0_0 t270 t271 from by repeat (first | (with_reducible first | exact HI0.out | apply IsS118.alloc | apply IsS118.drewN | apply IsS118.drew | apply IsS118.set_1 | apply IsS118.set_2 | refine IsS118.far ?_ NB0_267.out _) | exact HI0.out))) : g ≠ gb274)); have n10_ := Aside0.mk ((by rw [hg]; exact Nat.ne_of_gt (IsS118.lt (show IsS118 w0 _ g s0_0 t270 t271 from by repeat (first | (with_reducible first | exact HI0.out | apply IsS118.alloc | apply IsS118.drewN | apply IsS118.drew | apply IsS118.set_1 | apply IsS118.set_2 | refine IsS118.far ?_ NB0_267.out _) | exact HI0.out))) : gb274 ≠ g)); clear HI0; clear BK267; clear HK; clear HB; have HI0 := n0_; have BK267 := n1_; have HK := n2_; have HB := n3_; have BK274 := n4_; have GW274 := n5_; have GE274 := n6_; have NB267_274 := n7_; have NB274_267 := n8_; have NB0_274 := n9_; have NB274_0 := n10_; clear n0_ n1_ n2_ n3_ n4_ n5_ n6_ n7_ n8_ n9_ n10_; clear hb hbox hg; have hnb13 := NB274_267.out; have hnc13 := NB267_274.out; have hnb14 := NB274_0.out; have hnc14 := NB0_274.out; have hcz15_0 : w12.cell? ⟨gb274, 0, none⟩ = some (.float .f64 0) := (blk_cell BK274.out 0).trans rfl; have hcz15_1 : w12.cell? ⟨gb274, 1, none⟩ = some (.float .f64 0) := (blk_cell BK274.out 1).trans rfl; have hfz15_0 := blk_frozen BK274.out 0; have hfz15_1 := blk_frozen BK274.out 1) | ((with_reducible refine gate_callee (f := 98) rfl ?_); refine goesL_ (some 8) rfl rfl Try.func98 (by kernel_rfl) rfl #[.pointer (some ⟨g, 0, none⟩), .int .i64 3] rfl (by (try simp only [List.map_toArray, List.map_cons, List.map_nil]); first | done | rfl | (simp only [List.length_drop, List.length_take]; rfl)) ?_; (with_reducible refine (spec_l1Once.calls g s0_0 t270 t271 3 true t276 t277 w0 _ ?side1 ?side2 A4.out).mono ?_); (case side1 => repeat (first | (with_reducible first | exact HI0.out | apply IsS118.alloc | apply IsS118.drewN | apply IsS118.drew | apply IsS118.set_1 | apply IsS118.set_2 | refine IsS118.far ?_ NB0_267.out _ | refine IsS118.far ?_ NB0_274.out _) | exact HI0.out)); (case side2 => repeat (first | (with_reducible first | exact HB.out | apply below_alloc | apply pw_below_drewN | apply below_drew1 | refine below_set ?_ (IsS118.ge HI0.out) | refine below_set ?_ GE274.out) | exact HB.out)); rintro e w16 ⟨rfl, hi, hb, hk⟩; refine ⟨_, rfl, ?_⟩; have n0_ := Aside0.mk (KeepBut.blk hk (g' := gb267) (o := .cells #[.float .f64 0, .float .f64 0] 34 (0, 0)) (by (with_reducible repeat (first | refine blk_drewN ?_ _ | refine blk_drew ?_ | refine blk_alloc ?_ _)); refine blk_far ?_ NB267_274.out _; (with_reducible repeat (first | refine blk_drewN ?_ _ | refine blk_drew ?_ | refine blk_alloc ?_ _)); refine blk_far ?_ NB267_274.out _; (with_reducible repeat (first | refine blk_drewN ?_ _ | refine blk_drew ?_ | refine blk_alloc ?_ _)); exact BK267.out) NB267_0.out (by simp)); have n1_ := Aside0.mk (KeepBut.blk hk (g' := gb274) (o := .cells #[.float .f64 b_t272, .float .f64 b_t273] 34 (0, 0)) (by (with_reducible repeat (first | refine blk_drewN ?_ _ | refine blk_drew ?_ | refine blk_alloc ?_ _)); refine blk_put (cs := #[.float .f64 b_t272, .float .f64 0]) ?_ 1 _ rfl; (with_reducible repeat (first | refine blk_drewN ?_ _ | refine blk_drew ?_ | refine blk_alloc ?_ _)); refine blk_put (cs := #[.float .f64 0, .float .f64 0]) ?_ 0 _ rfl; (with_reducible repeat (first | refine blk_drewN ?_ _ | refine blk_drew ?_ | refine blk_alloc ?_ _)); exact BK274.out) NB274_0.out (by simp)); have n2_ := Aside0.mk (KeepBut.trans (by repeat (first | (with_reducible first | exact HK.out | apply KeepBut.set_ | apply keep_drewN | apply keep_drew | apply keep_alloc | refine keep_far ?_ GW267.out _ | refine keep_far ?_ GW274.out _) | exact HK.out)) hk (.inl rfl)); have n3_ := Aside0.mk (hb); have n4_ := Aside0.mk (hi); clear BK267; clear BK274; clear HK; clear HB; clear HI0; have BK267 := n0_; have BK274 := n1_; have HK := n2_; have HB := n3_; have HI0 := n4_; clear n0_ n1_ n2_ n3_ n4_; (try clear hb); (try clear hb2); (try clear hk); (try clear hi)))
    have n0_ := Aside0.mk (blk_drew BK267.out)
    have n1_ := Aside0.mk (blk_drew BK274.out)
    have n2_ := Aside0.mk (IsS118.drew HI0.out)
    have n3_ := Aside0.mk (keep_drew HK.out)
    have n4_ := Aside0.mk (below_drew1 HB.out)
    clear BK267
    clear BK274
    clear HI0
    clear HK
    clear HB
    have BK267 := n0_
    have BK274 := n1_
    have HI0 := n2_
    have HK := n3_
    have HB := n4_
    clear n0_ n1_ n2_ n3_ n4_
    refine start_ (n := 6) (S := fun w' => w'.cell? ⟨gb274, 0, none⟩ = some (.float .f64 b_t272) ∧ w'.cell? ⟨gb274, 1, none⟩ = some (.float .f64 b_t273)) (ds := [5]) #[false, false, false, false, false, false] (by kernel_rfl) rfl rfl ⟨(blk_cell BK274.out 0).trans rfl, (blk_cell BK274.out 1).trans rfl⟩ (fun hHeld => ?_)
    generalize w16.drew = w17 at BK267 BK274 HI0 HK HB hHeld ⊢
    refine pure_ (i := 1) (N := some 10) (v := ?_) (a' := ?_) #[false, true, false, false, false, false] rfl rfl (by kernel_rfl) (fun _ _ _ h => h) (Or.inl ⟨by rfl, ?_⟩) ?_ ?_
    rotate_left
    · intro w'
      go_simp
      with_reducible rfl
    rotate_left
    · simp only [Act.put, List.setIfInBounds_toArray, List.set_cons_zero, List.set_cons_succ, i64_w, i32_w]
      rfl
    refine take_ (i := 0) (N := some 9) (v := ?_) (a' := ?_) #[true, true, false, false, false, false] rfl rfl (by kernel_rfl) (fun _ _ _ h => h) (Or.inl ⟨by rfl, ?_⟩) hHeld ?_ ?_
    rotate_left
    · rintro w' ⟨s0, s1⟩
      go_simp
      with_reducible rfl
    rotate_left
    · simp only [Act.put, List.setIfInBounds_toArray, List.set_cons_zero, List.set_cons_succ, i64_w, i32_w]
      rfl
    refine one_ (i := 2) (N := some 11) #[true, true, true, false, false, false] rfl rfl (by kernel_rfl) (by decide) (fun K hK => ?_)
    refine goes_ Try.func84 (by kernel_rfl) rfl #[.pointer (some ⟨g, 0, none⟩)] (by rfl) rfl rfl (by (try simp only [List.map_toArray, List.map_cons, List.map_nil]); first | done | rfl | (simp only [List.length_drop, List.length_take]; rfl)) ?_
    with_reducible refine (spec_l4DrawSharp.calls k g s0_0 t276 t277 t278 t279 t280 t281 w0 _ ?side1 ?side2 A6.out).mono ?_
    (case side1 => repeat (first | (with_reducible first | exact HI0.out | apply IsS118.alloc | apply IsS118.drewN | apply IsS118.drew | apply IsS118.set_1 | apply IsS118.set_2 | refine IsS118.far ?_ NB0_267.out _ | refine IsS118.far ?_ NB0_274.out _) | exact HI0.out))
    (case side2 => repeat (first | (with_reducible first | exact HB.out | apply below_alloc | apply pw_below_drewN | apply below_drew1 | refine below_set ?_ (IsS118.ge HI0.out)) | exact HB.out))
    rintro e w18 ⟨b_t278, b_t279, rfl, hF_t278, hF_t279, hi, hb, hk⟩
    refine ⟨_, rfl, ?_⟩
    have n0_ := Aside0.mk (KeepBut.blk hk (g' := gb267) (o := .cells #[.float .f64 0, .float .f64 0] 34 (0, 0)) (by (with_reducible repeat (first | refine blk_drewN ?_ _ | refine blk_drew ?_ | refine blk_alloc ?_ _)); exact BK267.out) NB267_0.out (by simp))
    have n1_ := Aside0.mk (KeepBut.blk hk (g' := gb274) (o := .cells #[.float .f64 b_t272, .float .f64 b_t273] 34 (0, 0)) (by (with_reducible repeat (first | refine blk_drewN ?_ _ | refine blk_drew ?_ | refine blk_alloc ?_ _)); exact BK274.out) NB274_0.out (by simp))
    have n2_ := Aside0.mk (KeepBut.trans (by repeat (first | (with_reducible first | exact HK.out | apply KeepBut.set_ | apply keep_drewN | apply keep_drew | apply keep_alloc | refine keep_far ?_ GW267.out _ | refine keep_far ?_ GW274.out _) | exact HK.out)) hk (.inl rfl))
    have n3_ := Aside0.mk (hb)
    have n4_ := Aside0.mk (hi)
    clear BK267
    clear BK274
    clear HK
    clear HB
    clear HI0
    have BK267 := n0_
    have BK274 := n1_
    have HK := n2_
    have HB := n3_
    have HI0 := n4_
    clear n0_ n1_ n2_ n3_ n4_
    (try clear hb)
    (try clear hb2)
    (try clear hk)
    (try clear hi)
    refine hK.out _ _ ⟨(blk_cell BK274.out 0).trans rfl, (blk_cell BK274.out 1).trans rfl⟩ (fun hHeld => ?_)
    clear hK K
    refine norm_ (a' := ?_) ?_ ?_
    rotate_left
    · show Act.put _ (some 11) _ = _
      simp only [Act.put, List.setIfInBounds_toArray, List.set_cons_zero, List.set_cons_succ, i64_w, i32_w]
      rfl
    refine one_ (i := 3) (N := some 12) #[true, true, true, true, false, false] rfl rfl (by kernel_rfl) (by decide) (fun K hK => ?_)
    refine goes_ Try.func100 (by kernel_rfl) rfl #[.agg #[.float .f32 b_t278, .float .f32 b_t279]] (by rfl) rfl rfl (by (try simp only [List.map_toArray, List.map_cons, List.map_nil]); first | done | rfl | (simp only [List.length_drop, List.length_take]; rfl)) ?_
    with_reducible refine (spec_Wider.calls b_t278 t278 b_t279 t279 t282 t283 _ ?side1 ?side2 A7.out).mono ?_
    (case side1 => exact hF_t278)
    (case side2 => exact hF_t279)
    rintro e w19 ⟨b_t282, b_t283, rfl, hF_t282, hF_t283, hb⟩
    refine ⟨_, rfl, ?_⟩
    have n0_ := Aside0.mk (IsS118.below (by repeat (first | (with_reducible first | exact HI0.out | apply IsS118.alloc | apply IsS118.drewN | apply IsS118.drew | apply IsS118.set_1 | apply IsS118.set_2 | refine IsS118.far ?_ NB0_267.out _ | refine IsS118.far ?_ NB0_274.out _) | exact HI0.out)) hb)
    have n1_ := Aside0.mk (blk_below (g := gb267) (o := .cells #[.float .f64 0, .float .f64 0] 34 (0, 0)) (by (with_reducible repeat (first | refine blk_drewN ?_ _ | refine blk_drew ?_ | refine blk_alloc ?_ _)); exact BK267.out) hb)
    have n2_ := Aside0.mk (blk_below (g := gb274) (o := .cells #[.float .f64 b_t272, .float .f64 b_t273] 34 (0, 0)) (by (with_reducible repeat (first | refine blk_drewN ?_ _ | refine blk_drew ?_ | refine blk_alloc ?_ _)); exact BK274.out) hb)
    have n3_ := Aside0.mk (KeepBut.trans (by repeat (first | (with_reducible first | exact HK.out | apply KeepBut.set_ | apply keep_drewN | apply keep_drew | apply keep_alloc | refine keep_far ?_ GW267.out _ | refine keep_far ?_ GW274.out _) | exact HK.out)) (KeepBut.of_below hb g none) (.inl rfl))
    have n4_ := Aside0.mk (below_step (by repeat (first | (with_reducible first | exact HB.out | apply below_alloc | apply pw_below_drewN | apply below_drew1 | refine below_set ?_ (IsS118.ge HI0.out)) | exact HB.out)) hb)
    clear HI0
    clear BK267
    clear BK274
    clear HK
    clear HB
    have HI0 := n0_
    have BK267 := n1_
    have BK274 := n2_
    have HK := n3_
    have HB := n4_
    clear n0_ n1_ n2_ n3_ n4_
    (try clear hb)
    (try clear hb2)
    (try clear hk)
    (try clear hi)
    refine hK.out _ _ ⟨(blk_cell BK274.out 0).trans rfl, (blk_cell BK274.out 1).trans rfl⟩ (fun hHeld => ?_)
    clear hK K
    refine norm_ (a' := ?_) ?_ ?_
    rotate_left
    · show Act.put _ (some 12) _ = _
      simp only [Act.put, List.setIfInBounds_toArray, List.set_cons_zero, List.set_cons_succ, i64_w, i32_w]
      rfl
    refine one_ (i := 4) (N := some 13) #[true, true, true, true, true, false] rfl rfl (by kernel_rfl) (by decide) (fun K hK => ?_)
    refine goes_ Try.func69 (by kernel_rfl) rfl #[.agg #[.float .f64 b_t272, .float .f64 b_t273], .agg #[.float .f64 b_t282, .float .f64 b_t283]] (by rfl) rfl rfl (by (try simp only [List.map_toArray, List.map_cons, List.map_nil]); first | done | rfl | (simp only [List.length_drop, List.length_take]; rfl)) ?_
    with_reducible refine (spec_CxTimes.calls b_t272 t272 b_t273 t273 b_t282 t282 b_t283 t283 t284 t285 _ ?side1 ?side2 ?side3 ?side4 A8.out).mono ?_
    (case side1 => exact hF_t272)
    (case side2 => exact hF_t273)
    (case side3 => exact hF_t282)
    (case side4 => exact hF_t283)
    rintro e w20 ⟨b_t284, b_t285, rfl, hF_t284, hF_t285, hb⟩
    refine ⟨_, rfl, ?_⟩
    have n0_ := Aside0.mk (IsS118.below (by repeat (first | (with_reducible first | exact HI0.out | apply IsS118.alloc | apply IsS118.drewN | apply IsS118.drew | apply IsS118.set_1 | apply IsS118.set_2 | refine IsS118.far ?_ NB0_267.out _ | refine IsS118.far ?_ NB0_274.out _) | exact HI0.out)) hb)
    have n1_ := Aside0.mk (blk_below (g := gb267) (o := .cells #[.float .f64 0, .float .f64 0] 34 (0, 0)) (by (with_reducible repeat (first | refine blk_drewN ?_ _ | refine blk_drew ?_ | refine blk_alloc ?_ _)); exact BK267.out) hb)
    have n2_ := Aside0.mk (blk_below (g := gb274) (o := .cells #[.float .f64 b_t272, .float .f64 b_t273] 34 (0, 0)) (by (with_reducible repeat (first | refine blk_drewN ?_ _ | refine blk_drew ?_ | refine blk_alloc ?_ _)); exact BK274.out) hb)
    have n3_ := Aside0.mk (KeepBut.trans (by repeat (first | (with_reducible first | exact HK.out | apply KeepBut.set_ | apply keep_drewN | apply keep_drew | apply keep_alloc | refine keep_far ?_ GW267.out _ | refine keep_far ?_ GW274.out _) | exact HK.out)) (KeepBut.of_below hb g none) (.inl rfl))
    have n4_ := Aside0.mk (below_step (by repeat (first | (with_reducible first | exact HB.out | apply below_alloc | apply pw_below_drewN | apply below_drew1 | refine below_set ?_ (IsS118.ge HI0.out)) | exact HB.out)) hb)
    clear HI0
    clear BK267
    clear BK274
    clear HK
    clear HB
    have HI0 := n0_
    have BK267 := n1_
    have BK274 := n2_
    have HK := n3_
    have HB := n4_
    clear n0_ n1_ n2_ n3_ n4_
    (try clear hb)
    (try clear hb2)
    (try clear hk)
    (try clear hi)
    refine hK.out _ _ ⟨(blk_cell BK274.out 0).trans rfl, (blk_cell BK274.out 1).trans rfl⟩ (fun hHeld => ?_)
    clear hK K
    refine norm_ (a' := ?_) ?_ ?_
    rotate_left
    · show Act.put _ (some 13) _ = _
      simp only [Act.put, List.setIfInBounds_toArray, List.set_cons_zero, List.set_cons_succ, i64_w, i32_w]
      rfl
    refine last_ (i := 5) (N := none) #[true, true, true, true, true, true] rfl rfl (by kernel_rfl) (by decide) (fun K hK => ?_)
    have hs21 : w20.cell? ⟨gb274, 0, none⟩ = some (.float .f64 b_t272) := (blk_cell BK274.out 0).trans rfl
    have hfs21 := blk_frozen BK274.out 0
    have hns21_0 := NB267_274.out
    have hms21_0 := NB274_267.out
    have hs22 : w20.cell? ⟨gb274, 1, none⟩ = some (.float .f64 b_t273) := (blk_cell BK274.out 1).trans rfl
    have hfs22 := blk_frozen BK274.out 1
    have hns22_0 := NB267_274.out
    have hms22_0 := NB274_267.out
    refine skip_ (w1 := ?_) (by rfl) rfl ?_ ?_
    rotate_left
    · go_simp
      rfl
    refine hK.out _ _ ?_
    clear hK K
    refine done_ (by kernel_rfl) ?_
    have hcz23_0 : w20.cell? ⟨gb274, 0, none⟩ = some (.float .f64 b_t272) := (blk_cell BK274.out 0).trans rfl
    have hcz23_1 : w20.cell? ⟨gb274, 1, none⟩ = some (.float .f64 b_t273) := (blk_cell BK274.out 1).trans rfl
    have hfz23_0 := blk_frozen BK274.out 0
    have hfz23_1 := blk_frozen BK274.out 1
    have hnb24 := NB267_0.out
    have hnc24 := NB0_267.out
    have hcz25_0 : w20.cell? ⟨gb267, 0, none⟩ = some (.float .f64 0) := (blk_cell BK267.out 0).trans rfl
    have hcz25_1 : w20.cell? ⟨gb267, 1, none⟩ = some (.float .f64 0) := (blk_cell BK267.out 1).trans rfl
    have hfz25_0 := blk_frozen BK267.out 0
    have hfz25_1 := blk_frozen BK267.out 1
    try go_wp2
    refine bodyPost_ret (results_cell_row rfl _ _ gb267 34 #[.float .f64 b_t284, .float .f64 b_t285] (0, 0) _ rfl (by (with_reducible repeat (first | refine blk_drewN ?_ _ | refine blk_drew ?_ | refine blk_alloc ?_ _)); refine blk_put (cs := #[.float .f64 b_t284, .float .f64 0]) ?_ 1 _ rfl; (with_reducible repeat (first | refine blk_drewN ?_ _ | refine blk_drew ?_ | refine blk_alloc ?_ _)); refine blk_put (cs := #[.float .f64 0, .float .f64 0]) ?_ 0 _ rfl; (with_reducible repeat (first | refine blk_drewN ?_ _ | refine blk_drew ?_ | refine blk_alloc ?_ _)); refine blk_far ?_ NB267_274.out _; (with_reducible repeat (first | refine blk_drewN ?_ _ | refine blk_drew ?_ | refine blk_alloc ?_ _)); refine blk_far ?_ NB267_274.out _; (with_reducible repeat (first | refine blk_drewN ?_ _ | refine blk_drew ?_ | refine blk_alloc ?_ _)); exact BK267.out) Try.underlying34 rfl (by kernel_rfl)) rfl ?_
    exact ⟨b_t284, b_t285, by first | rfl | (simp [errW_none, errW_some] <;> rfl) | (simp [*, errW_none, errW_some] <;> rfl), hF_t284, hF_t285, by repeat (first | (with_reducible first | exact HI0.out | apply IsS118.alloc | apply IsS118.drewN | apply IsS118.drew | apply IsS118.set_1 | apply IsS118.set_2 | refine IsS118.far ?_ NB0_267.out _ | refine IsS118.far ?_ NB0_274.out _) | exact HI0.out), by repeat (first | (with_reducible first | exact HB.out | apply below_alloc | apply pw_below_drewN | apply below_drew1 | refine below_set ?_ (IsS118.ge HI0.out) | refine below_set ?_ GE267.out | refine below_set ?_ GE274.out) | exact HB.out), by repeat (first | (with_reducible first | exact HK.out | apply KeepBut.set_ | apply keep_drewN | apply keep_drew | apply keep_alloc | refine keep_far ?_ GW267.out _ | refine keep_far ?_ GW274.out _) | exact HK.out)⟩
  · replace c5 := Bool.eq_false_iff.mpr c5
    subst c5
    have H1 : (some (t272, t273, t276, t277)) = some (r1, r2, r3, r4) := by rw [if_neg (show ¬ (false = true) by decide)] at H; exact H
    clear H
    have H := H1
    clear H1
    simp only [Option.some.injEq, Prod.mk.injEq] at H
    obtain ⟨rfl, rfl, rfl, rfl⟩ := H
    go_enter Try.func96, Try.ntmps96
    go_wp2_with (first | ((with_reducible refine gate_dst (N := 2) rfl ?_); refine box_event ?hg (N := 2) ?hd (cs := #[.float .f64 0, .float .f64 0]) (t := 34) ?hr ?_; (case hd => rfl); (case hg => rfl); (case hr => first | (go_simp; done) | (go_simp; rfl)); intro gb267 hg w26 hbox hb; have n0_ := Aside0.mk (IsS118.below (by repeat (first | (with_reducible first | exact HI0.out | apply IsS118.alloc | apply IsS118.drewN | apply IsS118.drew | apply IsS118.set_1 | apply IsS118.set_2) | exact HI0.out)) hb); have n1_ := Aside0.mk (KeepBut.trans (by repeat (first | (with_reducible first | exact HK.out | apply KeepBut.set_ | apply keep_drewN | apply keep_drew | apply keep_alloc) | exact HK.out)) (KeepBut.of_below hb g none) (.inl rfl)); have n2_ := Aside0.mk (below_step (by exact HB.out) hb); have n3_ := Aside0.mk (hbox); have n4_ := Aside0.mk ((by rw [hg]; exact (keep_size (w := w) (g := g) (row := none) (by repeat (first | (with_reducible first | exact HK.out | apply KeepBut.set_ | apply keep_drewN | apply keep_drew | apply keep_alloc) | exact HK.out))) : w.heap.size ≤ gb267)); have n5_ := Aside0.mk ((Nat.le_trans HW0.out (by rw [hg]; exact (keep_size (w := w) (g := g) (row := none) (by repeat (first | (with_reducible first | exact HK.out | apply KeepBut.set_ | apply keep_drewN | apply keep_drew | apply keep_alloc) | exact HK.out))) : w.heap.size ≤ gb267) : w0.heap.size ≤ gb267)); have n6_ := Aside0.mk ((by rw [hg]; exact Nat.ne_of_lt (IsS118.lt (show IsS118 w0 _ g s0_0 s0_1 s0_2 from by repeat (first | (with_reducible first | exact HI0.out | apply IsS118.alloc | apply IsS118.drewN | apply IsS118.drew | apply IsS118.set_1 | apply IsS118.set_2) | exact HI0.out))) : g ≠ gb267)); have n7_ := Aside0.mk ((by rw [hg]; exact Nat.ne_of_gt (IsS118.lt (show IsS118 w0 _ g s0_0 s0_1 s0_2 from by repeat (first | (with_reducible first | exact HI0.out | apply IsS118.alloc | apply IsS118.drewN | apply IsS118.drew | apply IsS118.set_1 | apply IsS118.set_2) | exact HI0.out))) : gb267 ≠ g)); clear HI0; clear HK; clear HB; have HI0 := n0_; have HK := n1_; have HB := n2_; have BK267 := n3_; have GW267 := n4_; have GE267 := n5_; have NB0_267 := n6_; have NB267_0 := n7_; clear n0_ n1_ n2_ n3_ n4_ n5_ n6_ n7_; clear hb hbox hg) | ((with_reducible refine gate_callee (f := 84) rfl ?_); refine goesL_ (some 5) rfl rfl Try.func84 (by kernel_rfl) rfl #[.pointer (some ⟨g, 0, none⟩)] rfl (by (try simp only [List.map_toArray, List.map_cons, List.map_nil]); first | done | rfl | (simp only [List.length_drop, List.length_take]; rfl)) ?_; (with_reducible refine (spec_l4DrawSharp.calls k g s0_0 s0_1 s0_2 t268 t269 t270 t271 w0 _ ?side1 ?side2 A2.out).mono ?_); (case side1 => repeat (first | (with_reducible first | exact HI0.out | apply IsS118.alloc | apply IsS118.drewN | apply IsS118.drew | apply IsS118.set_1 | apply IsS118.set_2 | refine IsS118.far ?_ NB0_267.out _) | exact HI0.out)); (case side2 => exact HB.out); rintro e w27 ⟨b_t268, b_t269, rfl, hF_t268, hF_t269, hi, hb, hk⟩; refine ⟨_, rfl, ?_⟩; have n0_ := Aside0.mk (KeepBut.blk hk (g' := gb267) (o := .cells #[.float .f64 0, .float .f64 0] 34 (0, 0)) (by exact BK267.out) NB267_0.out (by simp)); have n1_ := Aside0.mk (KeepBut.trans (by repeat (first | (with_reducible first | exact HK.out | apply KeepBut.set_ | apply keep_drewN | apply keep_drew | apply keep_alloc | refine keep_far ?_ GW267.out _) | exact HK.out)) hk (.inl rfl)); have n2_ := Aside0.mk (hb); have n3_ := Aside0.mk (hi); clear BK267; clear HK; clear HB; clear HI0; have BK267 := n0_; have HK := n1_; have HB := n2_; have HI0 := n3_; clear n0_ n1_ n2_ n3_; (try clear hb); (try clear hb2); (try clear hk); (try clear hi)) | ((with_reducible refine gate_callee (f := 100) rfl ?_); refine goesL_ (some 6) rfl rfl Try.func100 (by kernel_rfl) rfl #[.agg #[.float .f32 b_t268, .float .f32 b_t269]] rfl (by (try simp only [List.map_toArray, List.map_cons, List.map_nil]); first | done | rfl | (simp only [List.length_drop, List.length_take]; rfl)) ?_; (with_reducible refine (spec_Wider.calls b_t268 t268 b_t269 t269 t272 t273 _ ?side1 ?side2 A3.out).mono ?_); (case side1 => exact hF_t268); (case side2 => exact hF_t269); rintro e w28 ⟨b_t272, b_t273, rfl, hF_t272, hF_t273, hb⟩; refine ⟨_, rfl, ?_⟩; have n0_ := Aside0.mk (IsS118.below (by repeat (first | (with_reducible first | exact HI0.out | apply IsS118.alloc | apply IsS118.drewN | apply IsS118.drew | apply IsS118.set_1 | apply IsS118.set_2 | refine IsS118.far ?_ NB0_267.out _) | exact HI0.out)) hb); have n1_ := Aside0.mk (blk_below (g := gb267) (o := .cells #[.float .f64 0, .float .f64 0] 34 (0, 0)) (by exact BK267.out) hb); have n2_ := Aside0.mk (KeepBut.trans (by repeat (first | (with_reducible first | exact HK.out | apply KeepBut.set_ | apply keep_drewN | apply keep_drew | apply keep_alloc | refine keep_far ?_ GW267.out _) | exact HK.out)) (KeepBut.of_below hb g none) (.inl rfl)); have n3_ := Aside0.mk (below_step (by exact HB.out) hb); clear HI0; clear BK267; clear HK; clear HB; have HI0 := n0_; have BK267 := n1_; have HK := n2_; have HB := n3_; clear n0_ n1_ n2_ n3_; (try clear hb); (try clear hb2); (try clear hk); (try clear hi)) | ((with_reducible refine gate_dst (N := 3) rfl ?_); refine box_event ?hg (N := 3) ?hd (cs := #[.float .f64 0, .float .f64 0]) (t := 34) ?hr ?_; (case hd => rfl); (case hg => rfl); (case hr => first | (go_simp; done) | (go_simp; rfl)); intro gb274 hg w29 hbox hb; have n0_ := Aside0.mk (IsS118.below (by repeat (first | (with_reducible first | exact HI0.out | apply IsS118.alloc | apply IsS118.drewN | apply IsS118.drew | apply IsS118.set_1 | apply IsS118.set_2 | refine IsS118.far ?_ NB0_267.out _) | exact HI0.out)) hb); have n1_ := Aside0.mk (blk_below (g := gb267) (o := .cells #[.float .f64 0, .float .f64 0] 34 (0, 0)) (by exact BK267.out) hb); have n2_ := Aside0.mk (KeepBut.trans (by repeat (first | (with_reducible first | exact HK.out | apply KeepBut.set_ | apply keep_drewN | apply keep_drew | apply keep_alloc | refine keep_far ?_ GW267.out _) | exact HK.out)) (KeepBut.of_below hb g none) (.inl rfl)); have n3_ := Aside0.mk (below_step (by exact HB.out) hb); have n4_ := Aside0.mk (hbox); have n5_ := Aside0.mk ((by rw [hg]; exact (keep_size (w := w) (g := g) (row := none) (by repeat (first | (with_reducible first | exact HK.out | apply KeepBut.set_ | apply keep_drewN | apply keep_drew | apply keep_alloc | refine keep_far ?_ GW267.out _) | exact HK.out))) : w.heap.size ≤ gb274)); have n6_ := Aside0.mk ((Nat.le_trans HW0.out (by rw [hg]; exact (keep_size (w := w) (g := g) (row := none) (by repeat (first | (with_reducible first | exact HK.out | apply KeepBut.set_ | apply keep_drewN | apply keep_drew | apply keep_alloc | refine keep_far ?_ GW267.out _) | exact HK.out))) : w.heap.size ≤ gb274) : w0.heap.size ≤ gb274)); have n7_ := Aside0.mk ((by rw [hg]; exact Nat.ne_of_lt (blk_lt (g := gb267) (o := .cells #[.float .f64 0, .float .f64 0] 34 (0, 0)) (by exact BK267.out)) : gb267 ≠ gb274)); have n8_ := Aside0.mk ((n7_.out.symm)); have n9_ := Aside0.mk ((by rw [hg]; exact Nat.ne_of_lt (IsS118.lt (show IsS118 w0 _ g s0_0 t270 t271 from by repeat (first | (with_reducible first | exact HI0.out | apply IsS118.alloc | apply IsS118.drewN | apply IsS118.drew | apply IsS118.set_1 | apply IsS118.set_2 | refine IsS118.far ?_ NB0_267.out _) | exact HI0.out))) : g ≠ gb274)); have n10_ := Aside0.mk ((by rw [hg]; exact Nat.ne_of_gt (IsS118.lt (show IsS118 w0 _ g s0_0 t270 t271 from by repeat (first | (with_reducible first | exact HI0.out | apply IsS118.alloc | apply IsS118.drewN | apply IsS118.drew | apply IsS118.set_1 | apply IsS118.set_2 | refine IsS118.far ?_ NB0_267.out _) | exact HI0.out))) : gb274 ≠ g)); clear HI0; clear BK267; clear HK; clear HB; have HI0 := n0_; have BK267 := n1_; have HK := n2_; have HB := n3_; have BK274 := n4_; have GW274 := n5_; have GE274 := n6_; have NB267_274 := n7_; have NB274_267 := n8_; have NB0_274 := n9_; have NB274_0 := n10_; clear n0_ n1_ n2_ n3_ n4_ n5_ n6_ n7_ n8_ n9_ n10_; clear hb hbox hg; have hnb30 := NB274_267.out; have hnc30 := NB267_274.out; have hnb31 := NB274_0.out; have hnc31 := NB0_274.out; have hcz32_0 : w29.cell? ⟨gb274, 0, none⟩ = some (.float .f64 0) := (blk_cell BK274.out 0).trans rfl; have hcz32_1 : w29.cell? ⟨gb274, 1, none⟩ = some (.float .f64 0) := (blk_cell BK274.out 1).trans rfl; have hfz32_0 := blk_frozen BK274.out 0; have hfz32_1 := blk_frozen BK274.out 1) | ((with_reducible refine gate_callee (f := 98) rfl ?_); refine goesL_ (some 8) rfl rfl Try.func98 (by kernel_rfl) rfl #[.pointer (some ⟨g, 0, none⟩), .int .i64 3] rfl (by (try simp only [List.map_toArray, List.map_cons, List.map_nil]); first | done | rfl | (simp only [List.length_drop, List.length_take]; rfl)) ?_; (with_reducible refine (spec_l1Once.calls g s0_0 t270 t271 3 false t276 t277 w0 _ ?side1 ?side2 A4.out).mono ?_); (case side1 => repeat (first | (with_reducible first | exact HI0.out | apply IsS118.alloc | apply IsS118.drewN | apply IsS118.drew | apply IsS118.set_1 | apply IsS118.set_2 | refine IsS118.far ?_ NB0_267.out _ | refine IsS118.far ?_ NB0_274.out _) | exact HI0.out)); (case side2 => repeat (first | (with_reducible first | exact HB.out | apply below_alloc | apply pw_below_drewN | apply below_drew1 | refine below_set ?_ (IsS118.ge HI0.out) | refine below_set ?_ GE274.out) | exact HB.out)); rintro e w33 ⟨rfl, hi, hb, hk⟩; refine ⟨_, rfl, ?_⟩; have n0_ := Aside0.mk (KeepBut.blk hk (g' := gb267) (o := .cells #[.float .f64 0, .float .f64 0] 34 (0, 0)) (by (with_reducible repeat (first | refine blk_drewN ?_ _ | refine blk_drew ?_ | refine blk_alloc ?_ _)); refine blk_far ?_ NB267_274.out _; (with_reducible repeat (first | refine blk_drewN ?_ _ | refine blk_drew ?_ | refine blk_alloc ?_ _)); refine blk_far ?_ NB267_274.out _; (with_reducible repeat (first | refine blk_drewN ?_ _ | refine blk_drew ?_ | refine blk_alloc ?_ _)); exact BK267.out) NB267_0.out (by simp)); have n1_ := Aside0.mk (KeepBut.blk hk (g' := gb274) (o := .cells #[.float .f64 b_t272, .float .f64 b_t273] 34 (0, 0)) (by (with_reducible repeat (first | refine blk_drewN ?_ _ | refine blk_drew ?_ | refine blk_alloc ?_ _)); refine blk_put (cs := #[.float .f64 b_t272, .float .f64 0]) ?_ 1 _ rfl; (with_reducible repeat (first | refine blk_drewN ?_ _ | refine blk_drew ?_ | refine blk_alloc ?_ _)); refine blk_put (cs := #[.float .f64 0, .float .f64 0]) ?_ 0 _ rfl; (with_reducible repeat (first | refine blk_drewN ?_ _ | refine blk_drew ?_ | refine blk_alloc ?_ _)); exact BK274.out) NB274_0.out (by simp)); have n2_ := Aside0.mk (KeepBut.trans (by repeat (first | (with_reducible first | exact HK.out | apply KeepBut.set_ | apply keep_drewN | apply keep_drew | apply keep_alloc | refine keep_far ?_ GW267.out _ | refine keep_far ?_ GW274.out _) | exact HK.out)) hk (.inl rfl)); have n3_ := Aside0.mk (hb); have n4_ := Aside0.mk (hi); clear BK267; clear BK274; clear HK; clear HB; clear HI0; have BK267 := n0_; have BK274 := n1_; have HK := n2_; have HB := n3_; have HI0 := n4_; clear n0_ n1_ n2_ n3_ n4_; (try clear hb); (try clear hb2); (try clear hk); (try clear hi); have hcz34_0 : w33.cell? ⟨gb274, 0, none⟩ = some (.float .f64 b_t272) := (blk_cell BK274.out 0).trans rfl; have hcz34_1 : w33.cell? ⟨gb274, 1, none⟩ = some (.float .f64 b_t273) := (blk_cell BK274.out 1).trans rfl; have hfz34_0 := blk_frozen BK274.out 0; have hfz34_1 := blk_frozen BK274.out 1; have hnb35 := NB267_0.out; have hnc35 := NB0_267.out; have hcz36_0 : w33.cell? ⟨gb267, 0, none⟩ = some (.float .f64 0) := (blk_cell BK267.out 0).trans rfl; have hcz36_1 : w33.cell? ⟨gb267, 1, none⟩ = some (.float .f64 0) := (blk_cell BK267.out 1).trans rfl; have hfz36_0 := blk_frozen BK267.out 0; have hfz36_1 := blk_frozen BK267.out 1))
    refine bodyPost_ret (results_cell_row rfl _ _ gb267 34 #[.float .f64 b_t272, .float .f64 b_t273] (0, 0) _ rfl (by (with_reducible repeat (first | refine blk_drewN ?_ _ | refine blk_drew ?_ | refine blk_alloc ?_ _)); refine blk_put (cs := #[.float .f64 b_t272, .float .f64 0]) ?_ 1 _ rfl; (with_reducible repeat (first | refine blk_drewN ?_ _ | refine blk_drew ?_ | refine blk_alloc ?_ _)); refine blk_put (cs := #[.float .f64 0, .float .f64 0]) ?_ 0 _ rfl; (with_reducible repeat (first | refine blk_drewN ?_ _ | refine blk_drew ?_ | refine blk_alloc ?_ _)); exact BK267.out) Try.underlying34 rfl (by kernel_rfl)) rfl ?_
    exact ⟨b_t272, b_t273, by first | rfl | (simp [errW_none, errW_some] <;> rfl) | (simp [*, errW_none, errW_some] <;> rfl), hF_t272, hF_t273, by repeat (first | (with_reducible first | exact HI0.out | apply IsS118.alloc | apply IsS118.drewN | apply IsS118.drew | apply IsS118.set_1 | apply IsS118.set_2 | refine IsS118.far ?_ NB0_267.out _) | exact HI0.out), by repeat (first | (with_reducible first | exact HB.out | apply below_alloc | apply pw_below_drewN | apply below_drew1 | refine below_set ?_ (IsS118.ge HI0.out) | refine below_set ?_ GE267.out) | exact HB.out), by repeat (first | (with_reducible first | exact HK.out | apply KeepBut.set_ | apply keep_drewN | apply keep_drew | apply keep_alloc | refine keep_far ?_ GW267.out _) | exact HK.out)⟩

/-! ### spec_l4Two: function 86 -/
def spec_l4Two.f (k : Nat) (l0 : List Int) : Option (Fl × Fl × Fl × Fl) := (spec_l1New.f k l0).bind fun bt288 => ((spec_l4DrawCx.f k bt288.1 bt288.2.1 bt288.2.2).bind fun bt292 => ((spec_l4DrawCx.f k bt288.1 bt292.2.2.1 bt292.2.2.2).bind fun bt296 => (some (bt292.1, bt292.2.1, bt296.1, bt296.2.1))))
theorem spec_l4Two.mono : ∀ a0 k, LeO (spec_l4Two.f k a0) (spec_l4Two.f (k + 1) a0) := by
  intro a0 k
  unfold spec_l4Two.f
  repeat' first
      | (with_reducible exact spec_l1New.mono _ _)
      | (with_reducible exact spec_l4DrawCx.mono _ _ _ _)
      | (with_reducible exact LeO.refl _)
      | (with_reducible exact LeO.none _)
      | (with_reducible refine LeO.ite ?_ ?_)
      | (with_reducible refine LeO.bind ?_ (fun _ => ?_))
      | exact spec_l1New.mono _ _
      | exact spec_l4DrawCx.mono _ _ _ _
      | exact LeO.none _
      | refine LeO.ite ?_ ?_
      | refine LeO.bind ?_ (fun _ => ?_)
set_option maxHeartbeats 8000000 in
set_option maxRecDepth 100000 in
theorem spec_l4Two.calls (k : Nat) (A0 : Option Addr) (c0 : Nat) (l0 : List Int) (r1 : Fl) (r2 : Fl) (r3 : Fl) (r4 : Fl) (w : World) (hr0 : Kd.C (Kd.int .u8) w A0 l0.length l0) (hc0 : l0.length ≤ c0) (h : spec_l4Two.f k l0 = some (r1, r2, r3, r4)) :
    Calls Try.prog 86 #[.slice A0 l0.length c0] w fun e w' => ∃ b_r1 b_r2 b_r3 b_r4 : Nat, e = .returned (.tuple #[.agg #[.float .f64 b_r1, .float .f64 b_r2], .agg #[.float .f64 b_r3, .float .f64 b_r4]]) ∧ cn .f64 b_r1 = r1 ∧ cn .f64 b_r2 = r2 ∧ cn .f64 b_r3 = r3 ∧ cn .f64 b_r4 = r4 ∧ Below w.heap.size w w' := by
  have hu34 := Try.underlying34
  have HR0 := Aside0.mk hr0
  have HC0 := Aside0.mk hc0
  clear hr0 hc0
  have HB := Aside0.mk (Below.refl w.heap.size w)
  have H : ((spec_l1New.f k l0).bind fun bt288 => ((spec_l4DrawCx.f k bt288.1 bt288.2.1 bt288.2.2).bind fun bt292 => ((spec_l4DrawCx.f k bt288.1 bt292.2.2.1 bt292.2.2.2).bind fun bt296 => (some (bt292.1, bt292.2.1, bt296.1, bt296.2.1))))) = some (r1, r2, r3, r4) := h
  clear h
  replace H := Option.bind_eq_some_iff.mp H
  obtain ⟨⟨t288, t289, t290⟩, A20, H⟩ := H
  replace H : ((spec_l4DrawCx.f k t288 t289 t290).bind fun bt292 => ((spec_l4DrawCx.f k t288 bt292.2.2.1 bt292.2.2.2).bind fun bt296 => (some (bt292.1, bt292.2.1, bt296.1, bt296.2.1)))) = some (r1, r2, r3, r4) := H
  have A2 := Aside0.mk A20
  clear A20
  replace H := Option.bind_eq_some_iff.mp H
  obtain ⟨⟨t292, t293, t294, t295⟩, A30, H⟩ := H
  replace H : ((spec_l4DrawCx.f k t288 t294 t295).bind fun bt296 => (some (t292, t293, bt296.1, bt296.2.1))) = some (r1, r2, r3, r4) := H
  have A3 := Aside0.mk A30
  clear A30
  replace H := Option.bind_eq_some_iff.mp H
  obtain ⟨⟨t296, t297, t298, t299⟩, A40, H⟩ := H
  replace H : (some (t292, t293, t296, t297)) = some (r1, r2, r3, r4) := H
  have A4 := Aside0.mk A40
  clear A40
  simp only [Option.some.injEq, Prod.mk.injEq] at H
  obtain ⟨rfl, rfl, rfl, rfl⟩ := H
  go_enter Try.func86, Try.ntmps86
  go_wp2_with (first | ((with_reducible refine gate_dst (N := 2) rfl ?_); refine box_event ?hg (N := 2) ?hd (cs := #[.float .f64 0, .float .f64 0]) (t := 34) ?hr ?_; (case hd => rfl); (case hg => rfl); (case hr => first | (go_simp; done) | (go_simp; rfl)); intro gb286 hg w5 hbox hb; have n0_ := Aside0.mk (below_step (by exact HB.out) hb); have n1_ := Aside0.mk (hbox); have n2_ := Aside0.mk ((by rw [hg]; exact (below_size (by exact HB.out)) : w.heap.size ≤ gb286)); have n3_ := Aside0.mk ((n2_.out)); clear HB; have HB := n0_; have BK286 := n1_; have GW286 := n2_; have GE286 := n3_; clear n0_ n1_ n2_ n3_; clear hb hbox hg) | ((with_reducible refine gate_dst (N := 3) rfl ?_); refine box_event ?hg (N := 3) ?hd (cs := #[.float .f64 0, .float .f64 0]) (t := 34) ?hr ?_; (case hd => rfl); (case hg => rfl); (case hr => first | (go_simp; done) | (go_simp; rfl)); intro gb287 hg w6 hbox hb; have n0_ := Aside0.mk (blk_below (g := gb286) (o := .cells #[.float .f64 0, .float .f64 0] 34 (0, 0)) (by exact BK286.out) hb); have n1_ := Aside0.mk (below_step (by exact HB.out) hb); have n2_ := Aside0.mk (hbox); have n3_ := Aside0.mk ((by rw [hg]; exact (below_size (by exact HB.out)) : w.heap.size ≤ gb287)); have n4_ := Aside0.mk ((n3_.out)); have n5_ := Aside0.mk ((by rw [hg]; exact Nat.ne_of_lt (blk_lt (g := gb286) (o := .cells #[.float .f64 0, .float .f64 0] 34 (0, 0)) (by exact BK286.out)) : gb286 ≠ gb287)); have n6_ := Aside0.mk ((n5_.out.symm)); clear BK286; clear HB; have BK286 := n0_; have HB := n1_; have BK287 := n2_; have GW287 := n3_; have GE287 := n4_; have NB286_287 := n5_; have NB287_286 := n6_; clear n0_ n1_ n2_ n3_ n4_ n5_ n6_; clear hb hbox hg) | ((with_reducible refine gate_callee (f := 85) rfl ?_); refine goesL_ (some 6) rfl rfl Try.func85 (by kernel_rfl) rfl #[.slice A0 l0.length c0] rfl (by (try simp only [List.map_toArray, List.map_cons, List.map_nil]); first | done | rfl | (simp only [List.length_drop, List.length_take]; rfl)) ?_; (with_reducible refine (spec_l1New.calls k _ _ l0 t288 t289 t290 w _ ?side1 ?side2 ?side3 A2.out).mono ?_); (case side1 => exact HB.out); (case side2 => exact HR0.out); (case side3 => exact HC0.out); rintro e w7 ⟨g291, rfl, hi, hb, hb2⟩; refine ⟨_, rfl, ?_⟩; have n0_ := Aside0.mk (blk_below (g := gb286) (o := .cells #[.float .f64 0, .float .f64 0] 34 (0, 0)) (by exact BK286.out) hb2); have n1_ := Aside0.mk (blk_below (g := gb287) (o := .cells #[.float .f64 0, .float .f64 0] 34 (0, 0)) (by exact BK287.out) hb2); have n2_ := Aside0.mk (hb); have n3_ := Aside0.mk (hi); have n4_ := Aside0.mk (IsS118.ne_blk hi (blk_below (g := gb286) (o := .cells #[.float .f64 0, .float .f64 0] 34 (0, 0)) (by exact BK286.out) hb2) (by decide)); have n5_ := Aside0.mk (Ne.symm (IsS118.ne_blk hi (blk_below (g := gb286) (o := .cells #[.float .f64 0, .float .f64 0] 34 (0, 0)) (by exact BK286.out) hb2) (by decide))); have n6_ := Aside0.mk (IsS118.ne_blk hi (blk_below (g := gb287) (o := .cells #[.float .f64 0, .float .f64 0] 34 (0, 0)) (by exact BK287.out) hb2) (by decide)); have n7_ := Aside0.mk (Ne.symm (IsS118.ne_blk hi (blk_below (g := gb287) (o := .cells #[.float .f64 0, .float .f64 0] 34 (0, 0)) (by exact BK287.out) hb2) (by decide))); clear BK286; clear BK287; clear HB; have BK286 := n0_; have BK287 := n1_; have HB := n2_; have HI291 := n3_; have NB291_286 := n4_; have NB286_291 := n5_; have NB291_287 := n6_; have NB287_291 := n7_; clear n0_ n1_ n2_ n3_ n4_ n5_ n6_ n7_; (try clear hb); (try clear hb2); (try clear hk); (try clear hi)) | ((with_reducible refine gate_callee (f := 96) rfl ?_); refine goesL_ (some 8) rfl rfl Try.func96 (by kernel_rfl) rfl #[.pointer (some ⟨g291, 0, none⟩)] rfl (by (try simp only [List.map_toArray, List.map_cons, List.map_nil]); first | done | rfl | (simp only [List.length_drop, List.length_take]; rfl)) ?_; (with_reducible refine (spec_l4DrawCx.calls k g291 t288 t289 t290 t292 t293 t294 t295 w _ ?side1 ?side2 A3.out).mono ?_); (case side1 => repeat (first | (with_reducible first | exact HI291.out | apply IsS118.alloc | apply IsS118.drewN | apply IsS118.drew | apply IsS118.set_1 | apply IsS118.set_2 | refine IsS118.far ?_ NB291_286.out _ | refine IsS118.far ?_ NB291_287.out _) | exact HI291.out)); (case side2 => exact HB.out); rintro e w8 ⟨b_t292, b_t293, rfl, hF_t292, hF_t293, hi, hb, hk⟩; refine ⟨_, rfl, ?_⟩; have n0_ := Aside0.mk (KeepBut.blk hk (g' := gb286) (o := .cells #[.float .f64 0, .float .f64 0] 34 (0, 0)) (by exact BK286.out) NB286_291.out (by simp)); have n1_ := Aside0.mk (KeepBut.blk hk (g' := gb287) (o := .cells #[.float .f64 0, .float .f64 0] 34 (0, 0)) (by exact BK287.out) NB287_291.out (by simp)); have n2_ := Aside0.mk (hb); have n3_ := Aside0.mk (hi); clear BK286; clear BK287; clear HB; clear HI291; have BK286 := n0_; have BK287 := n1_; have HB := n2_; have HI291 := n3_; clear n0_ n1_ n2_ n3_; (try clear hb); (try clear hb2); (try clear hk); (try clear hi)) | ((with_reducible refine gate_callee (f := 96) rfl ?_); refine goesL_ (some 10) rfl rfl Try.func96 (by kernel_rfl) rfl #[.pointer (some ⟨g291, 0, none⟩)] rfl (by (try simp only [List.map_toArray, List.map_cons, List.map_nil]); first | done | rfl | (simp only [List.length_drop, List.length_take]; rfl)) ?_; (with_reducible refine (spec_l4DrawCx.calls k g291 t288 t294 t295 t296 t297 t298 t299 w _ ?side1 ?side2 A4.out).mono ?_); (case side1 => repeat (first | (with_reducible first | exact HI291.out | apply IsS118.alloc | apply IsS118.drewN | apply IsS118.drew | apply IsS118.set_1 | apply IsS118.set_2 | refine IsS118.far ?_ NB291_286.out _ | refine IsS118.far ?_ NB291_287.out _) | exact HI291.out)); (case side2 => exact HB.out); rintro e w9 ⟨b_t296, b_t297, rfl, hF_t296, hF_t297, hi, hb, hk⟩; refine ⟨_, rfl, ?_⟩; have n0_ := Aside0.mk (KeepBut.blk hk (g' := gb286) (o := .cells #[.float .f64 0, .float .f64 0] 34 (0, 0)) (by exact BK286.out) NB286_291.out (by simp)); have n1_ := Aside0.mk (KeepBut.blk hk (g' := gb287) (o := .cells #[.float .f64 0, .float .f64 0] 34 (0, 0)) (by exact BK287.out) NB287_291.out (by simp)); have n2_ := Aside0.mk (hb); have n3_ := Aside0.mk (hi); clear BK286; clear BK287; clear HB; clear HI291; have BK286 := n0_; have BK287 := n1_; have HB := n2_; have HI291 := n3_; clear n0_ n1_ n2_ n3_; (try clear hb); (try clear hb2); (try clear hk); (try clear hi); have hnb10 := NB286_287.out; have hnc10 := NB287_286.out; have hnb11 := NB286_291.out; have hnc11 := NB291_286.out; have hcz12_0 : w9.cell? ⟨gb286, 0, none⟩ = some (.float .f64 0) := (blk_cell BK286.out 0).trans rfl; have hcz12_1 : w9.cell? ⟨gb286, 1, none⟩ = some (.float .f64 0) := (blk_cell BK286.out 1).trans rfl; have hfz12_0 := blk_frozen BK286.out 0; have hfz12_1 := blk_frozen BK286.out 1; have hnb13 := NB287_291.out; have hnc13 := NB291_287.out; have hcz14_0 : w9.cell? ⟨gb287, 0, none⟩ = some (.float .f64 0) := (blk_cell BK287.out 0).trans rfl; have hcz14_1 : w9.cell? ⟨gb287, 1, none⟩ = some (.float .f64 0) := (blk_cell BK287.out 1).trans rfl; have hfz14_0 := blk_frozen BK287.out 0; have hfz14_1 := blk_frozen BK287.out 1))
  refine bodyPost_ret (results_cc rfl _ _ gb286 gb287 34 34 #[.float .f64 b_t292, .float .f64 b_t293] #[.float .f64 b_t296, .float .f64 b_t297] (0, 0) (0, 0) _ _ rfl (by (with_reducible repeat (first | refine blk_drewN ?_ _ | refine blk_drew ?_ | refine blk_alloc ?_ _)); refine blk_far ?_ NB286_287.out _; (with_reducible repeat (first | refine blk_drewN ?_ _ | refine blk_drew ?_ | refine blk_alloc ?_ _)); refine blk_far ?_ NB286_287.out _; (with_reducible repeat (first | refine blk_drewN ?_ _ | refine blk_drew ?_ | refine blk_alloc ?_ _)); refine blk_put (cs := #[.float .f64 b_t292, .float .f64 0]) ?_ 1 _ rfl; (with_reducible repeat (first | refine blk_drewN ?_ _ | refine blk_drew ?_ | refine blk_alloc ?_ _)); refine blk_put (cs := #[.float .f64 0, .float .f64 0]) ?_ 0 _ rfl; (with_reducible repeat (first | refine blk_drewN ?_ _ | refine blk_drew ?_ | refine blk_alloc ?_ _)); exact BK286.out) Try.underlying34 rfl (by kernel_rfl) rfl (by (with_reducible repeat (first | refine blk_drewN ?_ _ | refine blk_drew ?_ | refine blk_alloc ?_ _)); refine blk_put (cs := #[.float .f64 b_t296, .float .f64 0]) ?_ 1 _ rfl; (with_reducible repeat (first | refine blk_drewN ?_ _ | refine blk_drew ?_ | refine blk_alloc ?_ _)); refine blk_put (cs := #[.float .f64 0, .float .f64 0]) ?_ 0 _ rfl; (with_reducible repeat (first | refine blk_drewN ?_ _ | refine blk_drew ?_ | refine blk_alloc ?_ _)); refine blk_far ?_ NB287_286.out _; (with_reducible repeat (first | refine blk_drewN ?_ _ | refine blk_drew ?_ | refine blk_alloc ?_ _)); refine blk_far ?_ NB287_286.out _; (with_reducible repeat (first | refine blk_drewN ?_ _ | refine blk_drew ?_ | refine blk_alloc ?_ _)); exact BK287.out) Try.underlying34 rfl (by kernel_rfl)) rfl ?_
  exact ⟨b_t292, b_t293, b_t296, b_t297, by first | rfl | (simp [errW_none, errW_some] <;> rfl) | (simp [*, errW_none, errW_some] <;> rfl), hF_t292, hF_t293, hF_t296, hF_t297, by repeat (first | (with_reducible first | exact HB.out | apply below_alloc | apply pw_below_drewN | apply below_drew1 | refine below_set ?_ (IsS118.ge HI291.out) | refine below_set ?_ GE286.out | refine below_set ?_ GE287.out) | exact HB.out)⟩

/-! ### spec_DrawCxTimes: function 59 -/
def spec_DrawCxTimes.f (k : Nat) (l0 : List Int) : Option (Fl × Fl × Fl × Fl) := (spec_l4Two.f k l0).bind fun bt302 => (some (bt302.1, bt302.2.1, bt302.2.2.1, bt302.2.2.2))
theorem spec_DrawCxTimes.mono : ∀ a0 k, LeO (spec_DrawCxTimes.f k a0) (spec_DrawCxTimes.f (k + 1) a0) := by
  intro a0 k
  unfold spec_DrawCxTimes.f
  repeat' first
      | (with_reducible exact spec_l4Two.mono _ _)
      | (with_reducible exact LeO.refl _)
      | (with_reducible exact LeO.none _)
      | (with_reducible refine LeO.ite ?_ ?_)
      | (with_reducible refine LeO.bind ?_ (fun _ => ?_))
      | exact spec_l4Two.mono _ _
      | exact LeO.none _
      | refine LeO.ite ?_ ?_
      | refine LeO.bind ?_ (fun _ => ?_)
set_option maxHeartbeats 8000000 in
set_option maxRecDepth 100000 in
theorem spec_DrawCxTimes.calls (k : Nat) (A0 : Option Addr) (c0 : Nat) (l0 : List Int) (r1 : Fl) (r2 : Fl) (r3 : Fl) (r4 : Fl) (w : World) (hr0 : Kd.C (Kd.int .u8) w A0 l0.length l0) (hc0 : l0.length ≤ c0) (h : spec_DrawCxTimes.f k l0 = some (r1, r2, r3, r4)) :
    Calls Try.prog 59 #[.slice A0 l0.length c0] w fun e w' => ∃ b_r1 b_r2 b_r3 b_r4 : Nat, e = .returned (.tuple #[.agg #[.float .f64 b_r1, .float .f64 b_r2], .agg #[.float .f64 b_r3, .float .f64 b_r4]]) ∧ cn .f64 b_r1 = r1 ∧ cn .f64 b_r2 = r2 ∧ cn .f64 b_r3 = r3 ∧ cn .f64 b_r4 = r4 ∧ Below w.heap.size w w' := by
  have hu34 := Try.underlying34
  have HR0 := Aside0.mk hr0
  have HC0 := Aside0.mk hc0
  clear hr0 hc0
  have HB := Aside0.mk (Below.refl w.heap.size w)
  have H : ((spec_l4Two.f k l0).bind fun bt302 => (some (bt302.1, bt302.2.1, bt302.2.2.1, bt302.2.2.2))) = some (r1, r2, r3, r4) := h
  clear h
  replace H := Option.bind_eq_some_iff.mp H
  obtain ⟨⟨t302, t303, t304, t305⟩, A20, H⟩ := H
  replace H : (some (t302, t303, t304, t305)) = some (r1, r2, r3, r4) := H
  have A2 := Aside0.mk A20
  clear A20
  simp only [Option.some.injEq, Prod.mk.injEq] at H
  obtain ⟨rfl, rfl, rfl, rfl⟩ := H
  go_enter Try.func59, Try.ntmps59
  go_wp2_with (first | ((with_reducible refine gate_dst (N := 2) rfl ?_); refine box_event ?hg (N := 2) ?hd (cs := #[.float .f64 0, .float .f64 0]) (t := 34) ?hr ?_; (case hd => rfl); (case hg => rfl); (case hr => first | (go_simp; done) | (go_simp; rfl)); intro gb300 hg w3 hbox hb; have n0_ := Aside0.mk (below_step (by exact HB.out) hb); have n1_ := Aside0.mk (hbox); have n2_ := Aside0.mk ((by rw [hg]; exact (below_size (by exact HB.out)) : w.heap.size ≤ gb300)); have n3_ := Aside0.mk ((n2_.out)); clear HB; have HB := n0_; have BK300 := n1_; have GW300 := n2_; have GE300 := n3_; clear n0_ n1_ n2_ n3_; clear hb hbox hg) | ((with_reducible refine gate_dst (N := 3) rfl ?_); refine box_event ?hg (N := 3) ?hd (cs := #[.float .f64 0, .float .f64 0]) (t := 34) ?hr ?_; (case hd => rfl); (case hg => rfl); (case hr => first | (go_simp; done) | (go_simp; rfl)); intro gb301 hg w4 hbox hb; have n0_ := Aside0.mk (blk_below (g := gb300) (o := .cells #[.float .f64 0, .float .f64 0] 34 (0, 0)) (by exact BK300.out) hb); have n1_ := Aside0.mk (below_step (by exact HB.out) hb); have n2_ := Aside0.mk (hbox); have n3_ := Aside0.mk ((by rw [hg]; exact (below_size (by exact HB.out)) : w.heap.size ≤ gb301)); have n4_ := Aside0.mk ((n3_.out)); have n5_ := Aside0.mk ((by rw [hg]; exact Nat.ne_of_lt (blk_lt (g := gb300) (o := .cells #[.float .f64 0, .float .f64 0] 34 (0, 0)) (by exact BK300.out)) : gb300 ≠ gb301)); have n6_ := Aside0.mk ((n5_.out.symm)); clear BK300; clear HB; have BK300 := n0_; have HB := n1_; have BK301 := n2_; have GW301 := n3_; have GE301 := n4_; have NB300_301 := n5_; have NB301_300 := n6_; clear n0_ n1_ n2_ n3_ n4_ n5_ n6_; clear hb hbox hg) | ((with_reducible refine gate_callee (f := 86) rfl ?_); refine goesL_ (some 5) rfl rfl Try.func86 (by kernel_rfl) rfl #[.slice A0 l0.length c0] rfl (by (try simp only [List.map_toArray, List.map_cons, List.map_nil]); first | done | rfl | (simp only [List.length_drop, List.length_take]; rfl)) ?_; (with_reducible refine (spec_l4Two.calls k _ _ l0 t302 t303 t304 t305 _ ?side1 ?side2 A2.out).mono ?_); (case side1 => repeat (first | exact (Kd.C_below HR0.out HB.out) | (with_reducible refine Kd.C_alloc ?_ _) | (with_reducible refine Kd.C_drewN ?_ _) | (with_reducible refine Kd.C_drew ?_))); (case side2 => exact HC0.out); rintro e w5 ⟨b_t302, b_t303, b_t304, b_t305, rfl, hF_t302, hF_t303, hF_t304, hF_t305, hb⟩; refine ⟨_, rfl, ?_⟩; have n0_ := Aside0.mk (blk_below (g := gb300) (o := .cells #[.float .f64 0, .float .f64 0] 34 (0, 0)) (by exact BK300.out) hb); have n1_ := Aside0.mk (blk_below (g := gb301) (o := .cells #[.float .f64 0, .float .f64 0] 34 (0, 0)) (by exact BK301.out) hb); have n2_ := Aside0.mk (below_step (by exact HB.out) hb); clear BK300; clear BK301; clear HB; have BK300 := n0_; have BK301 := n1_; have HB := n2_; clear n0_ n1_ n2_; (try clear hb); (try clear hb2); (try clear hk); (try clear hi); have hnb6 := NB300_301.out; have hnc6 := NB301_300.out; have hcz7_0 : w5.cell? ⟨gb300, 0, none⟩ = some (.float .f64 0) := (blk_cell BK300.out 0).trans rfl; have hcz7_1 : w5.cell? ⟨gb300, 1, none⟩ = some (.float .f64 0) := (blk_cell BK300.out 1).trans rfl; have hfz7_0 := blk_frozen BK300.out 0; have hfz7_1 := blk_frozen BK300.out 1; have hcz8_0 : w5.cell? ⟨gb301, 0, none⟩ = some (.float .f64 0) := (blk_cell BK301.out 0).trans rfl; have hcz8_1 : w5.cell? ⟨gb301, 1, none⟩ = some (.float .f64 0) := (blk_cell BK301.out 1).trans rfl; have hfz8_0 := blk_frozen BK301.out 0; have hfz8_1 := blk_frozen BK301.out 1))
  refine bodyPost_ret (results_cc rfl _ _ gb300 gb301 34 34 #[.float .f64 b_t302, .float .f64 b_t303] #[.float .f64 b_t304, .float .f64 b_t305] (0, 0) (0, 0) _ _ rfl (by (with_reducible repeat (first | refine blk_drewN ?_ _ | refine blk_drew ?_ | refine blk_alloc ?_ _)); refine blk_far ?_ NB300_301.out _; (with_reducible repeat (first | refine blk_drewN ?_ _ | refine blk_drew ?_ | refine blk_alloc ?_ _)); refine blk_far ?_ NB300_301.out _; (with_reducible repeat (first | refine blk_drewN ?_ _ | refine blk_drew ?_ | refine blk_alloc ?_ _)); refine blk_put (cs := #[.float .f64 b_t302, .float .f64 0]) ?_ 1 _ rfl; (with_reducible repeat (first | refine blk_drewN ?_ _ | refine blk_drew ?_ | refine blk_alloc ?_ _)); refine blk_put (cs := #[.float .f64 0, .float .f64 0]) ?_ 0 _ rfl; (with_reducible repeat (first | refine blk_drewN ?_ _ | refine blk_drew ?_ | refine blk_alloc ?_ _)); exact BK300.out) Try.underlying34 rfl (by kernel_rfl) rfl (by (with_reducible repeat (first | refine blk_drewN ?_ _ | refine blk_drew ?_ | refine blk_alloc ?_ _)); refine blk_put (cs := #[.float .f64 b_t304, .float .f64 0]) ?_ 1 _ rfl; (with_reducible repeat (first | refine blk_drewN ?_ _ | refine blk_drew ?_ | refine blk_alloc ?_ _)); refine blk_put (cs := #[.float .f64 0, .float .f64 0]) ?_ 0 _ rfl; (with_reducible repeat (first | refine blk_drewN ?_ _ | refine blk_drew ?_ | refine blk_alloc ?_ _)); refine blk_far ?_ NB301_300.out _; (with_reducible repeat (first | refine blk_drewN ?_ _ | refine blk_drew ?_ | refine blk_alloc ?_ _)); refine blk_far ?_ NB301_300.out _; (with_reducible repeat (first | refine blk_drewN ?_ _ | refine blk_drew ?_ | refine blk_alloc ?_ _)); exact BK301.out) Try.underlying34 rfl (by kernel_rfl)) rfl ?_
  exact ⟨b_t302, b_t303, b_t304, b_t305, by first | rfl | (simp [errW_none, errW_some] <;> rfl) | (simp [*, errW_none, errW_some] <;> rfl), hF_t302, hF_t303, hF_t304, hF_t305, by repeat (first | (with_reducible first | exact HB.out | apply below_alloc | apply pw_below_drewN | apply below_drew1 | refine below_set ?_ GE300.out | refine below_set ?_ GE301.out) | exact HB.out)⟩

/-! ### laws_sameBits: function 61 -/
def laws_sameBits.f (a0 : Fl) (a1 : Fl) : Option (Bool) := if (fcmp .eql .f64 a0 a1) = true then (some true) else (if (fcmp .neq .f64 a0 a0) = true then (some (fcmp .neq .f64 a1 a1)) else (some false))
set_option maxHeartbeats 8000000 in
set_option maxRecDepth 100000 in
theorem laws_sameBits.calls (b_a0 : Nat) (a0 : Fl) (b_a1 : Nat) (a1 : Fl) (r : Bool) (w : World) (hF_a0 : cn .f64 b_a0 = a0) (hF_a1 : cn .f64 b_a1 = a1) (h : laws_sameBits.f a0 a1 = some r) :
    Calls Try.prog 61 #[.float .f64 b_a0, .float .f64 b_a1] w fun e w' => e = .returned (.bool r) ∧ Drawn0 w w' := by
  have H : (if (fcmp .eql .f64 a0 a1) = true then (some true) else (if (fcmp .neq .f64 a0 a0) = true then (some (fcmp .neq .f64 a1 a1)) else (some false))) = some r := h
  clear h
  by_cases c3 : (fcmp .eql .f64 a0 a1) = true
  · rw [if_pos c3] at H
    have c3b0 : (fcmp .eql .f64 a0 a1) = true := c3
    clear c3
    obtain rfl := Option.some.inj H
    go_enter Try.func61, Try.ntmps61
    go_wp2
    go_ret
    exact ⟨by first | rfl | (simp; done) | (simp [*]; done), by repeat (first | exact Drawn0.refl _ | apply Drawn0.step)⟩
  · rw [if_neg c3] at H
    have c3b0 : (fcmp .eql .f64 a0 a1) = false := by simpa using c3
    clear c3
    by_cases c4 : (fcmp .neq .f64 a0 a0) = true
    · rw [if_pos c4] at H
      have c4b0 : (fcmp .neq .f64 a0 a0) = true := c4
      clear c4
      obtain rfl := Option.some.inj H
      go_enter Try.func61, Try.ntmps61
      go_wp2
      go_ret
      exact ⟨by first | rfl | (simp; done) | (simp [*]; done), by repeat (first | exact Drawn0.refl _ | apply Drawn0.step)⟩
    · rw [if_neg c4] at H
      have c4b0 : (fcmp .neq .f64 a0 a0) = false := by simpa using c4
      clear c4
      obtain rfl := Option.some.inj H
      go_enter Try.func61, Try.ntmps61
      go_wp2
      go_ret
      exact ⟨by first | rfl | (simp; done) | (simp [*]; done), by repeat (first | exact Drawn0.refl _ | apply Drawn0.step)⟩

/-! ### spec_DrawSmallRoots: function 62 -/
def spec_DrawSmallRoots.l0 : Nat → List (S34) → Int → List Int → Int → Int → Option ((List (S34)))
  | 0, _, _, _, _, _ => none
  | k + 1, x4, x5, x310000, x310001, x310002 => if x5 > 0 then ((spec_l1Below.f x310000 x310001 x310002 7).bind fun bt316 => ((spec_l1Below.f x310000 bt316.2.1 bt316.2.2 7).bind fun bt320 => (if x4.length < 8796093022208 then (spec_DrawSmallRoots.l0 k (x4 ++ [(⟨(fint .f64 (wrap64 (bt316.1 - 3))), (fint .f64 (wrap64 (bt320.1 - 3)))⟩ : S34)]) (wrap64 (x5 - 1)) x310000 bt320.2.1 bt320.2.2) else (none)))) else (some x4)
def spec_DrawSmallRoots.f (k : Nat) (l0 : List Int) : Option ((List (S34))) := (spec_l1New.f k l0).bind fun bt306 => ((spec_l1Below.f bt306.1 bt306.2.1 bt306.2.2 6).bind fun bt313 => (spec_DrawSmallRoots.l0 k (([] : List (S34))) bt313.1 bt306.1 bt313.2.1 bt313.2.2))
theorem spec_DrawSmallRoots.mono_l : ∀ k, (∀ y0 y1 y2 y3 y4, LeO (spec_DrawSmallRoots.l0 k y0 y1 y2 y3 y4) (spec_DrawSmallRoots.l0 (k + 1) y0 y1 y2 y3 y4))
  | 0 => fun _ _ _ _ _ r h => by simp [spec_DrawSmallRoots.l0] at h
  | k + 1 => by
    have ih0 := spec_DrawSmallRoots.mono_l k
    · intro y0 y1 y2 y3 y4
      unfold spec_DrawSmallRoots.l0
      repeat' first
      | (with_reducible exact ih0 _ _ _ _ _)
      | (with_reducible exact spec_l1New.mono _ _)
      | (with_reducible exact LeO.refl _)
      | (with_reducible exact LeO.none _)
      | (with_reducible refine LeO.ite ?_ ?_)
      | (with_reducible refine LeO.bind ?_ (fun _ => ?_))
      | exact ih0 _ _ _ _ _
      | exact spec_l1New.mono _ _
      | exact LeO.none _
      | refine LeO.ite ?_ ?_
      | refine LeO.bind ?_ (fun _ => ?_)
theorem spec_DrawSmallRoots.mono : ∀ a0 k, LeO (spec_DrawSmallRoots.f k a0) (spec_DrawSmallRoots.f (k + 1) a0) := by
  intro a0 k
  have ih0 := spec_DrawSmallRoots.mono_l k
  unfold spec_DrawSmallRoots.f
  repeat' first
      | (with_reducible exact ih0 _ _ _ _ _)
      | (with_reducible exact spec_l1New.mono _ _)
      | (with_reducible exact LeO.refl _)
      | (with_reducible exact LeO.none _)
      | (with_reducible refine LeO.ite ?_ ?_)
      | (with_reducible refine LeO.bind ?_ (fun _ => ?_))
      | exact ih0 _ _ _ _ _
      | exact spec_l1New.mono _ _
      | exact LeO.none _
      | refine LeO.ite ?_ ?_
      | refine LeO.bind ?_ (fun _ => ?_)
set_option maxHeartbeats 8000000 in
set_option maxRecDepth 100000 in
theorem spec_DrawSmallRoots.calls (k : Nat) (A0 : Option Addr) (c0 : Nat) (l0 : List Int) (r : List (S34)) (w : World) (hr0 : Kd.C (Kd.int .u8) w A0 l0.length l0) (hc0 : l0.length ≤ c0) (h : spec_DrawSmallRoots.f k l0 = some r) :
    Calls Try.prog 62 #[.slice A0 l0.length c0] w fun e w' => ∃ v0_ : Value, e = .returned (v0_) ∧ Kd.R k34 34 w' w.heap.size (fun _ => True) v0_ r ∧ Below w.heap.size w w' := by
  have hu34 := Try.underlying34
  have HR0 := Aside0.mk hr0
  have HC0 := Aside0.mk hc0
  clear hr0 hc0
  have HB := Aside0.mk (Below.refl w.heap.size w)
  have H : ((spec_l1New.f k l0).bind fun bt306 => ((spec_l1Below.f bt306.1 bt306.2.1 bt306.2.2 6).bind fun bt313 => (spec_DrawSmallRoots.l0 k (([] : List (S34))) bt313.1 bt306.1 bt313.2.1 bt313.2.2))) = some r := h
  clear h
  replace H := Option.bind_eq_some_iff.mp H
  obtain ⟨⟨t306, t307, t308⟩, A20, H⟩ := H
  replace H : ((spec_l1Below.f t306 t307 t308 6).bind fun bt313 => (spec_DrawSmallRoots.l0 k (([] : List (S34))) bt313.1 t306 bt313.2.1 bt313.2.2)) = some r := H
  have A2 := Aside0.mk A20
  clear A20
  obtain ⟨y310, hy310⟩ : ∃ y_ : List (S34), y_ = (([] : List (S34))) := ⟨_, rfl⟩
  replace H : ((spec_l1Below.f t306 t307 t308 6).bind fun bt313 => (spec_DrawSmallRoots.l0 k y310 bt313.1 t306 bt313.2.1 bt313.2.2)) = some r := by first | (rw [hy310]; with_reducible exact H) | (have H2_ := (Option.bind_some _ _).symm.trans H; rw [hy310]; with_reducible exact H2_) | (have H2_ := (Option.bind_some _ _).symm.trans H; with_reducible exact H2_) | with_reducible exact H | (rw [hy310]; exact H) | exact H
  have Ny310 := Aside0.mk hy310
  clear hy310
  replace H := Option.bind_eq_some_iff.mp H
  obtain ⟨⟨t313, t314, t315⟩, A30, H⟩ := H
  replace H : (spec_DrawSmallRoots.l0 k y310 t313 t306 t314 t315) = some r := H
  have A3 := Aside0.mk A30
  clear A30
  have H' := Aside0.mk H
  clear H
  go_enter Try.func62, Try.ntmps62
  go_wp2_with (first | ((with_reducible refine gate_callee (f := 85) rfl ?_); refine goesL_ (some 7) rfl rfl Try.func85 (by kernel_rfl) rfl #[.slice A0 l0.length c0] rfl (by (try simp only [List.map_toArray, List.map_cons, List.map_nil]); first | done | rfl | (simp only [List.length_drop, List.length_take]; rfl)) ?_; (with_reducible refine (spec_l1New.calls k _ _ l0 t306 t307 t308 w _ ?side1 ?side2 ?side3 A2.out).mono ?_); (case side1 => exact HB.out); (case side2 => exact HR0.out); (case side3 => exact HC0.out); rintro e w4 ⟨g309, rfl, hi, hb, hb2⟩; refine ⟨_, rfl, ?_⟩; have n0_ := Aside0.mk (hb); have n1_ := Aside0.mk (hi); clear HB; have HB := n0_; have HI309 := n1_; clear n0_ n1_; (try clear hb); (try clear hb2); (try clear hk); (try clear hi)) | ((with_reducible refine gate_dst (N := 8) rfl ?_); refine Kd.R_lit k34 _ 34 ?hg (N := 8) ?hd (xs := ([] : List (S34))) (inner := []) (ok := fun _ => True) (okp := fun _ => True) ?hr ?hp (fun _ hk => hk) trivial (Below.refl _ _) (Nat.le_refl _) (by simp) ?_; (case hd => rfl); (case hg => rfl); (case hr => first | (go_simp; done) | (go_simp; rfl)); (case hp => exact (Reps.none _ _)); intro v311 w5 ho6 hb hg_ hnew_; clear hg_ hnew_; (first | rw [← Ny310.out] at ho6 | (simp only [Int.reduceToNat] at ho6; rw [← Ny310.out] at ho6)); have n0_ := Aside0.mk (Kd.R_lower ho6 (below_size (by exact HB.out))); have n1_ := Aside0.mk (IsS118.below (by repeat (first | (with_reducible first | exact HI309.out | apply IsS118.alloc | apply IsS118.drewN | apply IsS118.drew | apply IsS118.set_1 | apply IsS118.set_2) | exact HI309.out)) hb); have n2_ := Aside0.mk (below_step (by exact HB.out) hb); clear HI309; clear HB; have HO312 := n0_; have HI309 := n1_; have HB := n2_; clear n0_ n1_ n2_; clear hb ho6) | ((with_reducible refine gate_callee (f := 87) rfl ?_); refine goesL_ (some 10) rfl rfl Try.func87 (by kernel_rfl) rfl #[.pointer (some ⟨g309, 0, none⟩), .int .i64 6] rfl (by (try simp only [List.map_toArray, List.map_cons, List.map_nil]); first | done | rfl | (simp only [List.length_drop, List.length_take]; rfl)) ?_; (with_reducible refine (spec_l1Below.calls g309 t306 t307 t308 6 t313 t314 t315 w _ ?side1 ?side2 A3.out).mono ?_); (case side1 => repeat (first | (with_reducible first | exact HI309.out | apply IsS118.alloc | apply IsS118.drewN | apply IsS118.drew | apply IsS118.set_1 | apply IsS118.set_2) | exact HI309.out)); (case side2 => exact HB.out); rintro e w7 ⟨rfl, hi, hb, hk⟩; refine ⟨_, rfl, ?_⟩; have n0_ := Aside0.mk (Kd.R_mono (Kd.R_keep (IsS118.apart (show IsS118 w _ g309 t306 t307 t308 from by repeat (first | (with_reducible first | exact HI309.out | apply IsS118.alloc | apply IsS118.drewN | apply IsS118.drew | apply IsS118.set_1 | apply IsS118.set_2) | exact HI309.out)) (by exact HO312.out) (by decide)) hk (fun _ h => h.2)) (fun _ h => h.1)); have n1_ := Aside0.mk (hb); have n2_ := Aside0.mk (hi); clear HO312; clear HB; clear HI309; have HO312 := n0_; have HB := n1_; have HI309 := n2_; clear n0_ n1_ n2_; (try clear hb); (try clear hb2); (try clear hk); (try clear hi)))
  go_loopg [4, 5] k (fun kq v4 v5 w' => ∃ (x4_1 : List (S34)) (x5_1 : Int) (x310001_1 : Int) (x310002_1 : Int), v5 = .int .i64 x5_1 ∧ Aside0 (spec_DrawSmallRoots.l0 kq x4_1 x5_1 t306 x310001_1 x310002_1 = some r) ∧ Aside0 (kq ≤ k) ∧ Aside0 (Kd.R k34 34 w' w.heap.size (fun _ => True) v4 x4_1) ∧ Aside0 (IsS118 w w' g309 t306 x310001_1 x310002_1) ∧ Aside0 (Below w.heap.size w w'))
  case atStart => exact ⟨(y310), (t313), (t314), (t315), (by first | rfl | (simp; done) | (simp [*]; done)), H', ⟨Nat.le_refl _⟩, ⟨by (with_reducible repeat (first | apply Kd.R_alloc | apply Kd.R_drewN | apply Kd.R_drew)); exact HO312.out⟩, ⟨by repeat (first | (with_reducible first | exact HI309.out | apply IsS118.alloc | apply IsS118.drewN | apply IsS118.drew | apply IsS118.set_1 | apply IsS118.set_2) | exact HI309.out)⟩, ⟨by repeat (first | (with_reducible first | exact HB.out | apply below_alloc | apply pw_below_drewN | apply below_drew1 | refine below_set ?_ (IsS118.ge HI309.out)) | exact HB.out)⟩⟩
  case round =>
    clear H'
    try clear p2
    try clear c6
    obtain ⟨x4_1, x5_1, x310001_1, x310002_1, rfl, HA, HK1, HO_4, HI309, HB⟩ := hrel
    cases gk with
    | zero => exact absurd HA.out (by simp [spec_DrawSmallRoots.l0])
    | succ k1 =>
      have H := HA.out
      clear HA
      simp only [spec_DrawSmallRoots.l0] at H
      by_cases c8 : x5_1 > 0
      · rw [if_pos c8] at H
        have c8b0 : decide (0 < x5_1) = true := decide_eq_true c8
        clear c8
        replace H := Option.bind_eq_some_iff.mp H
        obtain ⟨⟨t316, t317, t318⟩, A90, H⟩ := H
        replace H : ((spec_l1Below.f t306 t317 t318 7).bind fun bt320 => (if x4_1.length < 8796093022208 then (spec_DrawSmallRoots.l0 k1 (x4_1 ++ [(⟨(fint .f64 (wrap64 (t316 - 3))), (fint .f64 (wrap64 (bt320.1 - 3)))⟩ : S34)]) (wrap64 (x5_1 - 1)) t306 bt320.2.1 bt320.2.2) else (none))) = some r := H
        have A9 := Aside0.mk A90
        clear A90
        obtain ⟨ft319, hft319⟩ : ∃ y_ : Fl, y_ = (fint .f64 (wrap64 (t316 - 3))) := ⟨_, rfl⟩
        replace H : ((spec_l1Below.f t306 t317 t318 7).bind fun bt320 => (if x4_1.length < 8796093022208 then (spec_DrawSmallRoots.l0 k1 (x4_1 ++ [(⟨ft319, (fint .f64 (wrap64 (bt320.1 - 3)))⟩ : S34)]) (wrap64 (x5_1 - 1)) t306 bt320.2.1 bt320.2.2) else (none))) = some r := by first | (rw [hft319]; with_reducible exact H) | (have H2_ := (Option.bind_some _ _).symm.trans H; rw [hft319]; with_reducible exact H2_) | (have H2_ := (Option.bind_some _ _).symm.trans H; with_reducible exact H2_) | with_reducible exact H | (rw [hft319]; exact H) | exact H
        have Nft319 := Aside0.mk hft319
        clear hft319
        replace H := Option.bind_eq_some_iff.mp H
        obtain ⟨⟨t320, t321, t322⟩, A100, H⟩ := H
        replace H : (if x4_1.length < 8796093022208 then (spec_DrawSmallRoots.l0 k1 (x4_1 ++ [(⟨ft319, (fint .f64 (wrap64 (t320 - 3)))⟩ : S34)]) (wrap64 (x5_1 - 1)) t306 t321 t322) else (none)) = some r := H
        have A10 := Aside0.mk A100
        clear A100
        obtain ⟨ft323, hft323⟩ : ∃ y_ : Fl, y_ = (fint .f64 (wrap64 (t320 - 3))) := ⟨_, rfl⟩
        replace H : (if x4_1.length < 8796093022208 then (spec_DrawSmallRoots.l0 k1 (x4_1 ++ [(⟨ft319, ft323⟩ : S34)]) (wrap64 (x5_1 - 1)) t306 t321 t322) else (none)) = some r := by first | (rw [hft323]; with_reducible exact H) | (have H2_ := (Option.bind_some _ _).symm.trans H; rw [hft323]; with_reducible exact H2_) | (have H2_ := (Option.bind_some _ _).symm.trans H; with_reducible exact H2_) | with_reducible exact H | (rw [hft323]; exact H) | exact H
        have Nft323 := Aside0.mk hft323
        clear hft323
        by_cases c11 : x4_1.length < 8796093022208
        · rw [if_pos c11] at H
          have LMc11 := Aside0.mk c11
          clear c11
          obtain ⟨y324, hy324⟩ : ∃ y_ : List (S34), y_ = (x4_1 ++ [(⟨ft319, ft323⟩ : S34)]) := ⟨_, rfl⟩
          replace H : (spec_DrawSmallRoots.l0 k1 y324 (wrap64 (x5_1 - 1)) t306 t321 t322) = some r := by first | (rw [hy324]; with_reducible exact H) | (have H2_ := (Option.bind_some _ _).symm.trans H; rw [hy324]; with_reducible exact H2_) | (have H2_ := (Option.bind_some _ _).symm.trans H; with_reducible exact H2_) | with_reducible exact H | (rw [hy324]; exact H) | exact H
          have Ny324 := Aside0.mk hy324
          clear hy324
          have H' := Aside0.mk H
          clear H
          go_wp2_with (first | ((with_reducible refine gate_callee (f := 87) rfl ?_); refine goesL_ (some 17) rfl rfl Try.func87 (by kernel_rfl) rfl #[.pointer (some ⟨g309, 0, none⟩), .int .i64 7] rfl (by (try simp only [List.map_toArray, List.map_cons, List.map_nil]); first | done | rfl | (simp only [List.length_drop, List.length_take]; rfl)) ?_; (with_reducible refine (spec_l1Below.calls g309 t306 x310001_1 x310002_1 7 t316 t317 t318 w _ ?side1 ?side2 A9.out).mono ?_); (case side1 => repeat (first | (with_reducible first | exact HI309.out | apply IsS118.alloc | apply IsS118.drewN | apply IsS118.drew | apply IsS118.set_1 | apply IsS118.set_2) | exact HI309.out)); (case side2 => exact HB.out); rintro e w12 ⟨rfl, hi, hb, hk⟩; refine ⟨_, rfl, ?_⟩; have n0_ := Aside0.mk (Kd.R_mono (Kd.R_keep (IsS118.apart (show IsS118 w _ g309 t306 x310001_1 x310002_1 from by repeat (first | (with_reducible first | exact HI309.out | apply IsS118.alloc | apply IsS118.drewN | apply IsS118.drew | apply IsS118.set_1 | apply IsS118.set_2) | exact HI309.out)) (by exact HO_4.out) (by decide)) hk (fun _ h => h.2)) (fun _ h => h.1)); have n1_ := Aside0.mk (hb); have n2_ := Aside0.mk (hi); clear HO_4; clear HB; clear HI309; have HO_4 := n0_; have HB := n1_; have HI309 := n2_; clear n0_ n1_ n2_; (try clear hb); (try clear hb2); (try clear hk); (try clear hi)) | ((with_reducible refine gate_dst (N := 19) rfl ?_); refine fint_event rfl (N := 19) rfl rfl .f64 .i64 (wrap64 (t316 - 3)) Try.underlying3 Try.underlying23 rfl ?_; intro b_ft319 nf_ hF_; replace hF_ := hF_.trans Nft319.out.symm; have hF_ft319 := hF_; clear hF_) | ((with_reducible refine gate_callee (f := 87) rfl ?_); refine goesL_ (some 21) rfl rfl Try.func87 (by kernel_rfl) rfl #[.pointer (some ⟨g309, 0, none⟩), .int .i64 7] rfl (by (try simp only [List.map_toArray, List.map_cons, List.map_nil]); first | done | rfl | (simp only [List.length_drop, List.length_take]; rfl)) ?_; (with_reducible refine (spec_l1Below.calls g309 t306 t317 t318 7 t320 t321 t322 w _ ?side1 ?side2 A10.out).mono ?_); (case side1 => repeat (first | (with_reducible first | exact HI309.out | apply IsS118.alloc | apply IsS118.drewN | apply IsS118.drew | apply IsS118.set_1 | apply IsS118.set_2) | exact HI309.out)); (case side2 => repeat (first | (with_reducible first | exact HB.out | apply below_alloc | apply pw_below_drewN | apply below_drew1 | refine below_set ?_ (IsS118.ge HI309.out)) | exact HB.out)); rintro e w13 ⟨rfl, hi, hb, hk⟩; refine ⟨_, rfl, ?_⟩; have n0_ := Aside0.mk (Kd.R_mono (Kd.R_keep (IsS118.apart (show IsS118 w _ g309 t306 t317 t318 from by repeat (first | (with_reducible first | exact HI309.out | apply IsS118.alloc | apply IsS118.drewN | apply IsS118.drew | apply IsS118.set_1 | apply IsS118.set_2) | exact HI309.out)) (by (with_reducible repeat (first | apply Kd.R_alloc | apply Kd.R_drewN | apply Kd.R_drew)); exact HO_4.out) (by decide)) hk (fun _ h => h.2)) (fun _ h => h.1)); have n1_ := Aside0.mk (hb); have n2_ := Aside0.mk (hi); clear HO_4; clear HB; clear HI309; have HO_4 := n0_; have HB := n1_; have HI309 := n2_; clear n0_ n1_ n2_; (try clear hb); (try clear hb2); (try clear hk); (try clear hi)) | ((with_reducible refine gate_dst (N := 23) rfl ?_); refine fint_event rfl (N := 23) rfl rfl .f64 .i64 (wrap64 (t320 - 3)) Try.underlying3 Try.underlying23 rfl ?_; intro b_ft323 nf_ hF_; replace hF_ := hF_.trans Nft323.out.symm; have hF_ft323 := hF_; clear hF_) | ((with_reducible refine gate_builtin (b := .append) (xs := #[.tmp 15, .tmp 25]) rfl ?_); at_builtin; refine Kd.R_append k34 (w0 := w) w.heap.size rfl (.tmp 15) (.tmp 25) 37 34 (.agg #[(.float .f64 0), (.float .f64 0)]) 16 rfl Try.underlying37 info34 rfl (by decide) (by omega) u4 x4_1 (⟨ft319, ft323⟩ : S34) [.float .f64 b_ft319, .float .f64 b_ft323] (fun _ => True) (fun _ => False) rfl rfl ?aP (fun _ hk => hk.elim) ?aF ?aO ?aB ?aS ?aL ?_; (case aP => exact k34_mkM _ _ _ (⟨ft319, ft323⟩ : S34) hF_ft319 hF_ft323); (case aB => exact (by repeat (first | (with_reducible first | exact HB.out | apply below_alloc | apply pw_below_drewN | apply below_drew1 | refine below_set ?_ (IsS118.ge HI309.out)) | exact HB.out))); (case aF => exact (fun _ _ => trivial)); (case aO => exact (by (with_reducible repeat (first | apply Kd.R_alloc | apply Kd.R_drewN | apply Kd.R_drew)); exact HO_4.out)); (case aS => exact (below_size (by repeat (first | (with_reducible first | exact HB.out | apply below_alloc | apply pw_below_drewN | apply below_drew1 | refine below_set ?_ (IsS118.ge HI309.out)) | exact HB.out)))); (case aL => have := LMc11.out; omega); intro v325 w14 ho hb hg hat; rw [← Ny324.out] at ho; have n0_ := Aside0.mk (IsS118.grown (by repeat (first | (with_reducible first | exact HI309.out | apply IsS118.alloc | apply IsS118.drewN | apply IsS118.drew | apply IsS118.set_1 | apply IsS118.set_2) | exact HI309.out)) hg (IsS118.own_ne HI309.out HO_4.out (by decide))); have n1_ := Aside0.mk (hb); have n2_ := Aside0.mk (ho); clear HI309; clear HB; clear HO_4; have HI309 := n0_; have HB := n1_; have HO326 := n2_; clear n0_ n1_ n2_; clear ho hb hg hat))
          go_roundg k1
          case measure => have := HK1.out; omega
          case rel => exact ⟨(y324), (wrap64 (x5_1 - 1)), (t321), (t322), (by first | rfl | (simp; done) | (simp [*]; done)), H', ⟨by have := HK1.out; omega⟩, ⟨by (with_reducible repeat (first | apply Kd.R_alloc | apply Kd.R_drewN | apply Kd.R_drew)); exact HO326.out⟩, ⟨by repeat (first | (with_reducible first | exact HI309.out | apply IsS118.alloc | apply IsS118.drewN | apply IsS118.drew | apply IsS118.set_1 | apply IsS118.set_2) | exact HI309.out)⟩, ⟨by repeat (first | (with_reducible first | exact HB.out | apply below_alloc | apply pw_below_drewN | apply below_drew1 | refine below_set ?_ (IsS118.ge HI309.out)) | exact HB.out)⟩⟩
        · rw [if_neg c11] at H
          exact absurd H (by simp)
      · rw [if_neg c8] at H
        have c8b0 : decide (0 < x5_1) = false := decide_eq_false c8
        clear c8
        obtain rfl := Option.some.inj H
        go_wp2
        go_ret
        exact ⟨_, by first | rfl | (simp [errW_none, errW_some] <;> rfl) | (simp [*, errW_none, errW_some] <;> rfl), by (with_reducible repeat (first | apply Kd.R_alloc | apply Kd.R_drewN | apply Kd.R_drew)); exact HO_4.out, by repeat (first | (with_reducible first | exact HB.out | apply below_alloc | apply pw_below_drewN | apply below_drew1 | refine below_set ?_ (IsS118.ge HI309.out)) | exact HB.out)⟩

end Go.Proofs.Ytfopdbdamkfglaa.QFnSizes
