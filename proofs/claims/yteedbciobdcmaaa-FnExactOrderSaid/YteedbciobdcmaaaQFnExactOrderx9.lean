/- Lean functions that tell what the Go functions used by one law answer, and for each a proof that the Go code comes to just these answers; no condition. Printed by this session's own program over the kit's printer. -/
import Derived.Test.YteedbciobdcmaaaWSq
import Derived.Test.YteedbciobdcmaaaQFnExactOrderx0
import Derived.Test.YteedbciobdcmaaaQFnExactOrderx8
namespace Go.Proofs.Yteedbciobdcmaaa.QFnExactOrder
open Go.RowKit Go.Proofs.YteedbciobdcmaaaW.PrintWords Go.Proofs.YteedbciobdcmaaaW.PrintLast Go.Proofs.YteedbciobdcmaaaW.PrintMore
attribute [local go_sem] max2_int min2_int max_two min_two max_three min_three max_four min_four   -- for this text's walks alone
attribute [local go_sem high] go_eql go_neq go_lss go_leq go_gtr go_geq go_store   -- for this text's walks alone
set_option linter.unusedVariables false
set_option linter.unusedSimpArgs false

/-! ### impl_EnvelopeOk: function 55 -/
mutual
def impl_EnvelopeOk.j0 : Nat → Bool → List Int → List Int → List Int → Option (Bool)
 | 0, _, _, _, _ => none
 | k + 1, x31, x239000, x239001, x239002 => if x31 = true then (some false) else (impl_EnvelopeOk.l0 k x239001 (x239001.length : Int) 0 x239000 x239001 x239002)
def impl_EnvelopeOk.l0 : Nat → List Int → Int → Int → List Int → List Int → List Int → Option (Bool)
 | 0, _, _, _, _, _, _ => none
 | k + 1, x33, x34, x35, x239000, x239001, x239002 => if x35 < x34 then (if 0 ≤ x35 then (if x35 < (x33.length : Int) then (if x35 < (x239002.length : Int) then (if (rd x33 x35) > (rd x239002 x35) then (some false) else (impl_EnvelopeOk.l0 k x33 x34 (wrap64 (x35 + 1)) x239000 x239001 x239002)) else (none)) else (none)) else (none)) else ((impl_allIn.f k x239001 (-1000) 1000).bind fun t243 => (if t243 = true then ((impl_allIn.f k x239002 (-1000) 1000).bind fun t244 => (some t244)) else (some false)))
end
def impl_EnvelopeOk.f (k : Nat) (l0_0 : List Int) (l0_1 : List Int) (l0_2 : List Int) : Option (Bool) := (impl_in.f (l0_0.length : Int) 2 10).bind fun t239 => (if t239 = true then (if (l0_1.length : Int) = (l0_0.length : Int) then (if (l0_2.length : Int) = (l0_0.length : Int) then ((impl_ascends.f k l0_0 0 400000).bind fun t240 => (impl_EnvelopeOk.j0 k (!t240) l0_0 l0_1 l0_2)) else (impl_EnvelopeOk.j0 k true l0_0 l0_1 l0_2)) else (impl_EnvelopeOk.j0 k true l0_0 l0_1 l0_2)) else (impl_EnvelopeOk.j0 k true l0_0 l0_1 l0_2))
theorem impl_EnvelopeOk.mono_l : ∀ k, (∀ y0 y1 y2 y3, LeO (impl_EnvelopeOk.j0 k y0 y1 y2 y3) (impl_EnvelopeOk.j0 (k + 1) y0 y1 y2 y3)) ∧ (∀ y0 y1 y2 y3 y4 y5, LeO (impl_EnvelopeOk.l0 k y0 y1 y2 y3 y4 y5) (impl_EnvelopeOk.l0 (k + 1) y0 y1 y2 y3 y4 y5))
 | 0 => ⟨fun _ _ _ _ r h => by simp [impl_EnvelopeOk.j0] at h, fun _ _ _ _ _ _ r h => by simp [impl_EnvelopeOk.l0] at h⟩
 | k + 1 => by
  obtain ⟨ih0, ih1⟩ := impl_EnvelopeOk.mono_l k
  refine ⟨?_, ?_⟩
  ·intro y0 y1 y2 y3
   unfold impl_EnvelopeOk.j0
   repeat' first
   | (with_reducible exact ih0 _ _ _ _)
   | (with_reducible exact ih1 _ _ _ _ _ _)
   | (with_reducible exact impl_allIn.mono _ _ _ _)
   | (with_reducible exact impl_ascends.mono _ _ _ _)
   | (with_reducible exact LeO.refl _)
   | (with_reducible exact LeO.none _)
   | (with_reducible refine LeO.ite ?_ ?_)
   | (with_reducible refine LeO.bind ?_ (fun _ => ?_))
   | exact ih0 _ _ _ _
   | exact ih1 _ _ _ _ _ _
   | exact impl_allIn.mono _ _ _ _
   | exact impl_ascends.mono _ _ _ _
   | exact LeO.none _
   | refine LeO.ite ?_ ?_
   | refine LeO.bind ?_ (fun _ => ?_)
  ·intro y0 y1 y2 y3 y4 y5
   unfold impl_EnvelopeOk.l0
   repeat' first
   | (with_reducible exact ih0 _ _ _ _)
   | (with_reducible exact ih1 _ _ _ _ _ _)
   | (with_reducible exact impl_allIn.mono _ _ _ _)
   | (with_reducible exact impl_ascends.mono _ _ _ _)
   | (with_reducible exact LeO.refl _)
   | (with_reducible exact LeO.none _)
   | (with_reducible refine LeO.ite ?_ ?_)
   | (with_reducible refine LeO.bind ?_ (fun _ => ?_))
   | exact ih0 _ _ _ _
   | exact ih1 _ _ _ _ _ _
   | exact impl_allIn.mono _ _ _ _
   | exact impl_ascends.mono _ _ _ _
   | exact LeO.none _
   | refine LeO.ite ?_ ?_
   | refine LeO.bind ?_ (fun _ => ?_)
theorem impl_EnvelopeOk.mono : ∀ a0 a1 a2 k, LeO (impl_EnvelopeOk.f k a0 a1 a2) (impl_EnvelopeOk.f (k + 1) a0 a1 a2) := by
 intro a0 a1 a2 k
 obtain ⟨ih0, ih1⟩ := impl_EnvelopeOk.mono_l k
 unfold impl_EnvelopeOk.f
 repeat' first
   | (with_reducible exact ih0 _ _ _ _)
   | (with_reducible exact ih1 _ _ _ _ _ _)
   | (with_reducible exact impl_allIn.mono _ _ _ _)
   | (with_reducible exact impl_ascends.mono _ _ _ _)
   | (with_reducible exact LeO.refl _)
   | (with_reducible exact LeO.none _)
   | (with_reducible refine LeO.ite ?_ ?_)
   | (with_reducible refine LeO.bind ?_ (fun _ => ?_))
   | exact ih0 _ _ _ _
   | exact ih1 _ _ _ _ _ _
   | exact impl_allIn.mono _ _ _ _
   | exact impl_ascends.mono _ _ _ _
   | exact LeO.none _
   | refine LeO.ite ?_ ?_
   | refine LeO.bind ?_ (fun _ => ?_)
set_option maxHeartbeats 8000000 in
set_option maxRecDepth 100000 in
theorem impl_EnvelopeOk.calls (k : Nat) (A0_0 : Option Addr) (c0_0 : Nat) (l0_0 : List Int) (A0_1 : Option Addr) (c0_1 : Nat) (l0_1 : List Int) (A0_2 : Option Addr) (c0_2 : Nat) (l0_2 : List Int) (r : Bool) (w : World) (hr0_0 : Kd.C (Kd.int .i64) w A0_0 l0_0.length l0_0) (hc0_0 : l0_0.length ≤ c0_0) (hr0_1 : Kd.C (Kd.int .i64) w A0_1 l0_1.length l0_1) (hc0_1 : l0_1.length ≤ c0_1) (hr0_2 : Kd.C (Kd.int .i64) w A0_2 l0_2.length l0_2) (hc0_2 : l0_2.length ≤ c0_2) (h : impl_EnvelopeOk.f k l0_0 l0_1 l0_2 = some r) :
  Calls Try.prog 55 #[.agg #[.slice A0_0 l0_0.length c0_0, .slice A0_1 l0_1.length c0_1, .slice A0_2 l0_2.length c0_2]] w fun e w' => e = .returned (.bool r) ∧ Below w.heap.size w w' := by
 have hu33 := Try.underlying33
 have HR0_0 := mk_ hr0_0; have HC0_0 := mk_ hc0_0; clear hr0_0 hc0_0; have HR0_1 := mk_ hr0_1; have HC0_1 := mk_ hc0_1; clear hr0_1 hc0_1; have HR0_2 := mk_ hr0_2; have HC0_2 := mk_ hc0_2; clear hr0_2 hc0_2; have HB := mk_ (Below.refl w.heap.size w)
 have H : ((impl_in.f (l0_0.length : Int) 2 10).bind fun t239 => (if t239 = true then (if (l0_1.length : Int) = (l0_0.length : Int) then (if (l0_2.length : Int) = (l0_0.length : Int) then ((impl_ascends.f k l0_0 0 400000).bind fun t240 => (impl_EnvelopeOk.j0 k (!t240) l0_0 l0_1 l0_2)) else (impl_EnvelopeOk.j0 k true l0_0 l0_1 l0_2)) else (impl_EnvelopeOk.j0 k true l0_0 l0_1 l0_2)) else (impl_EnvelopeOk.j0 k true l0_0 l0_1 l0_2))) = some r := h
 clear h; have HC2 := mk_ H; clear H
 go_enter Try.func55, Try.ntmps55
 go_upto_region 2 with (first | ((with_reducible refine gd_ 1 rfl ?_); (try (refine gate_guard (by rfl) ?_; dsimp only)); refine box_event ?hg (N := 1) ?hd (cs := #[.slice A0_0 l0_0.length c0_0, .slice A0_1 l0_1.length c0_1, .slice A0_2 l0_2.length c0_2]) (t := 33) ?hr ?_; (case hd => rfl); (case hg => rfl); (case hr => exact hr_); intro gb238 hg w3 hbox hb; have BK238 := mk_ (hbox); have GW238 := gb_ hg HB; replace HB := bp_ HB hb; have GE238 := GW238; clear hb hbox hg; have hcz4_0 := bc0_ BK238; have hcz4_1 := bc1_ BK238; have hcz4_2 := bc2_ BK238; have hfz4_0 := bf_ BK238 0; have hfz4_1 := bf_ BK238 1; have hfz4_2 := bf_ BK238 2))
 (try simp only [Act.put, List.setIfInBounds_toArray, List.set_cons_zero, List.set_cons_succ])
 go_cut [31] (fun v31 wc => ∃ (kq : Nat) (x31_1 : Bool), v31 = .bool x31_1 ∧ Aside0 (impl_EnvelopeOk.j0 kq x31_1 l0_0 l0_1 l0_2 = some r) ∧ Aside0 (kq ≤ k) ∧ Aside0 (wc.heap[gb238]? = some (.cells #[(.slice A0_0 l0_0.length c0_0), (.slice A0_1 l0_1.length c0_1), (.slice A0_2 l0_2.length c0_2)] 33 (0, 0))) ∧ Aside0 (Below w.heap.size w wc))
 case first =>
  have H := HC2.out; clear HC2; replace H := Option.bind_eq_some_iff.mp H; obtain ⟨t239, A50, H⟩ := H; (try dsimp only at H); have A5 := mk_ A50; clear A50; by_cases c6 : t239 = true
  ·subst c6; rw [if_pos rfl] at H
   by_cases c7 : (l0_1.length : Int) = (l0_0.length : Int)
   ·rw [if_pos c7] at H; have c7b0 : ((l0_1.length : Int) == (l0_0.length : Int)) = true := beq_iff_eq.mpr c7; have c7b1 : ((l0_1.length : Int) != (l0_0.length : Int)) = false := bne_eq_false_iff_eq.mpr c7
    have c7b2 : (l0_1.length == l0_0.length) = true := by first | simpa using c7 | (simp at c7 ⊢; omega)
    clear c7
    (first | rw [c7b0] | (simp only [i64_w, i32_w]; rw [c7b0]) | skip)
    by_cases c8 : (l0_2.length : Int) = (l0_0.length : Int)
    ·rw [if_pos c8] at H; have c8b0 : ((l0_2.length : Int) == (l0_0.length : Int)) = true := beq_iff_eq.mpr c8; have c8b1 : ((l0_2.length : Int) != (l0_0.length : Int)) = false := bne_eq_false_iff_eq.mpr c8
     have c8b2 : (l0_2.length == l0_0.length) = true := by first | simpa using c8 | (simp at c8 ⊢; omega)
     clear c8; replace H := Option.bind_eq_some_iff.mp H; obtain ⟨t240, A90, H⟩ := H; (try dsimp only at H); have A9 := mk_ A90; clear A90
     have H' := mk_ H
     clear H
     go_wp2_with (first | ((with_reducible refine gc_ 48 rfl ?_); refine gl_ (some 10) rfl Try.func48 #[.int .i64 (l0_0.length : Int), .int .i64 2, .int .i64 10] ?_; (with_reducible refine (impl_in.calls (l0_0.length : Int) 2 10 true _ A5.out).mono ?_); rintro e w' ⟨rfl, ⟨nd, rfl⟩⟩; refine ⟨_, rfl, ?_⟩; have hcz10_0 := bc0_ BK238; have hcz10_1 := bc1_ BK238; have hcz10_2 := bc2_ BK238; have hfz10_0 := bf_ BK238 0; have hfz10_1 := bf_ BK238 1; have hfz10_2 := bf_ BK238 2) | (go_at_call 63; (with_reducible refine (impl_ascends.calls k _ _ l0_0 0 400000 t240 _ ?side1 ?side2 A9.out).mono ?_); (case side1 => repeat (first | exact (Kd.C_below HR0_0.out (hw_ HB)) | (with_reducible refine Kd.C_alloc ?_ _) | (with_reducible refine Kd.C_drewN ?_ _) | (with_reducible refine Kd.C_drew ?_))); (case side2 => exact HC0_0.out); rintro e w' ⟨rfl, ⟨nd, rfl⟩⟩))
     go_meet
     case rel => exact ⟨_, (!t240), rf_, H', ⟨by first | omega | exact Nat.le_refl _⟩, bw_ BK238, ⟨hw_ HB⟩⟩
    ·rw [if_neg c8] at H; have c8b0 : ((l0_2.length : Int) == (l0_0.length : Int)) = false := beq_eq_false_iff_ne.mpr c8; have c8b1 : ((l0_2.length : Int) != (l0_0.length : Int)) = true := bne_iff_ne.mpr c8
     have c8b2 : (l0_2.length == l0_0.length) = false := by first | simpa using c8 | (simp at c8 ⊢; omega)
     have H' := mk_ H
     clear H
     go_wp2_with (first | ((with_reducible refine gc_ 48 rfl ?_); refine gl_ (some 10) rfl Try.func48 #[.int .i64 (l0_0.length : Int), .int .i64 2, .int .i64 10] ?_; (with_reducible refine (impl_in.calls (l0_0.length : Int) 2 10 true _ A5.out).mono ?_); rintro e w' ⟨rfl, ⟨nd, rfl⟩⟩; refine ⟨_, rfl, ?_⟩; have hcz11_0 := bc0_ BK238; have hcz11_1 := bc1_ BK238; have hcz11_2 := bc2_ BK238; have hfz11_0 := bf_ BK238 0; have hfz11_1 := bf_ BK238 1; have hfz11_2 := bf_ BK238 2))
     go_meet
     case rel => exact ⟨_, (true), rf_, H', ⟨by first | omega | exact Nat.le_refl _⟩, bw_ BK238, ⟨hw_ HB⟩⟩
   ·rw [if_neg c7] at H; have c7b0 : ((l0_1.length : Int) == (l0_0.length : Int)) = false := beq_eq_false_iff_ne.mpr c7; have c7b1 : ((l0_1.length : Int) != (l0_0.length : Int)) = true := bne_iff_ne.mpr c7
    have c7b2 : (l0_1.length == l0_0.length) = false := by first | simpa using c7 | (simp at c7 ⊢; omega)
    (first | rw [c7b0] | (simp only [i64_w, i32_w]; rw [c7b0]) | skip)
    have H' := mk_ H
    clear H
    go_wp2_with (first | ((with_reducible refine gc_ 48 rfl ?_); refine gl_ (some 10) rfl Try.func48 #[.int .i64 (l0_0.length : Int), .int .i64 2, .int .i64 10] ?_; (with_reducible refine (impl_in.calls (l0_0.length : Int) 2 10 true _ A5.out).mono ?_); rintro e w' ⟨rfl, ⟨nd, rfl⟩⟩; refine ⟨_, rfl, ?_⟩; have hcz12_0 := bc0_ BK238; have hcz12_1 := bc1_ BK238; have hcz12_2 := bc2_ BK238; have hfz12_0 := bf_ BK238 0; have hfz12_1 := bf_ BK238 1; have hfz12_2 := bf_ BK238 2))
    go_meet
    case rel => exact ⟨_, (true), rf_, H', ⟨by first | omega | exact Nat.le_refl _⟩, bw_ BK238, ⟨hw_ HB⟩⟩
  ·replace c6 := Bool.eq_false_iff.mpr c6; subst c6; rw [if_neg (show ¬ (false = true) by decide)] at H
   have H' := mk_ H
   clear H
   go_wp2_with (first | ((with_reducible refine gc_ 48 rfl ?_); refine gl_ (some 10) rfl Try.func48 #[.int .i64 (l0_0.length : Int), .int .i64 2, .int .i64 10] ?_; (with_reducible refine (impl_in.calls (l0_0.length : Int) 2 10 false _ A5.out).mono ?_); rintro e w' ⟨rfl, ⟨nd, rfl⟩⟩; refine ⟨_, rfl, ?_⟩))
   go_meet
   case rel => exact ⟨_, (true), rf_, H', ⟨by first | omega | exact Nat.le_refl _⟩, bw_ BK238, ⟨hw_ HB⟩⟩
 case rest =>
  clear HC2
  obtain ⟨kq, x31_1, rfl, HA, HJ1, BK238, HB⟩ := hcut
  cases kq with
  | zero => exact absurd HA.out (by simp [impl_EnvelopeOk.j0])
  | succ kj1 =>
   have H := HA.out; clear HA
   simp only [impl_EnvelopeOk.j0] at H
   by_cases c13 : x31_1 = true
   ·subst c13; rw [if_pos rfl] at H
    obtain rfl := Option.some.inj H; go_wp2
    go_ret
    exact ⟨re_, hw_ HB⟩
   ·replace c13 := Bool.eq_false_iff.mpr c13; subst c13; rw [if_neg (show ¬ (false = true) by decide)] at H
    have H' := mk_ H
    clear H; have hcz14_0 := bc0_ BK238; have hcz14_1 := bc1_ BK238; have hcz14_2 := bc2_ BK238; have hfz14_0 := bf_ BK238 0; have hfz14_1 := bf_ BK238 1; have hfz14_2 := bf_ BK238 2; go_wp2
    go_loopg [35] kj1 (fun kq v35 w' => ∃ (x35_2 : Int), v35 = .int .i64 x35_2 ∧ Aside0 (impl_EnvelopeOk.l0 kq l0_1 (l0_1.length : Int) x35_2 l0_0 l0_1 l0_2 = some r) ∧ Aside0 (kq ≤ kj1) ∧ Aside0 (w'.heap[gb238]? = some (.cells #[(.slice A0_0 l0_0.length c0_0), (.slice A0_1 l0_1.length c0_1), (.slice A0_2 l0_2.length c0_2)] 33 (0, 0))) ∧ Aside0 (Below w.heap.size w w'))
    case atStart => exact ⟨(0), rf_, H', ⟨Nat.le_refl _⟩, bw_ BK238, ⟨hw_ HB⟩⟩
    case round =>
     clear H'; (try clear c13)
     obtain ⟨x35_2, rfl, HA, HK2, BK238, HB⟩ := hrel
     cases gk with
     | zero => exact absurd HA.out (by simp [impl_EnvelopeOk.l0])
     | succ k2 =>
      have H := HA.out; clear HA
      simp only [impl_EnvelopeOk.l0] at H
      by_cases c15 : x35_2 < (l0_1.length : Int)
      ·rw [if_pos c15] at H; have c15b0 : decide (x35_2 < (l0_1.length : Int)) = true := decide_eq_true c15; clear c15; by_cases c16 : 0 ≤ x35_2
       ·rw [if_pos c16] at H; have c16b0 : decide (0 ≤ x35_2) = true := decide_eq_true c16; clear c16; by_cases c17 : x35_2 < (l0_1.length : Int)
        ·rw [if_pos c17] at H; have c17b0 : decide (x35_2 < (l0_1.length : Int)) = true := decide_eq_true c17; clear c17; by_cases c18 : x35_2 < (l0_2.length : Int)
         ·rw [if_pos c18] at H; have c18b0 : decide (x35_2 < (l0_2.length : Int)) = true := decide_eq_true c18; clear c18; by_cases c19 : (rd l0_1 x35_2) > (rd l0_2 x35_2)
          ·rw [if_pos c19] at H; have c19b0 : decide ((rd l0_2 x35_2) < (rd l0_1 x35_2)) = true := decide_eq_true c19; clear c19; obtain rfl := Option.some.inj H
           have p241 : 0 ≤ (x35_2 : Int) := od_
           have q241 : x35_2 < (l0_1.length : Int) := od_
           obtain ⟨ad241, e241, hx241_0⟩ := Kd.at_int HR0_1.out x35_2 p241 q241; cases e241
           replace hx241_0 := (HB.out.cell (World.block_lt_of_cell? w _ hx241_0)).trans hx241_0
           replace p241 := eq_true p241; replace q241 := eq_true q241; have hcz20_0 := bc0_ BK238; have hcz20_1 := bc1_ BK238; have hcz20_2 := bc2_ BK238; have hfz20_0 := bf_ BK238 0; have hfz20_1 := bf_ BK238 1; have hfz20_2 := bf_ BK238 2
           have p242 : 0 ≤ (x35_2 : Int) := od_
           have q242 : x35_2 < (l0_2.length : Int) := od_
           obtain ⟨ad242, e242, hx242_0⟩ := Kd.at_int HR0_2.out x35_2 p242 q242; cases e242
           replace hx242_0 := (HB.out.cell (World.block_lt_of_cell? w _ hx242_0)).trans hx242_0
           replace p242 := eq_true p242; replace q242 := eq_true q242; go_wp2; go_ret
           exact ⟨re_, hw_ HB⟩
          ·rw [if_neg c19] at H; have c19b0 : decide ((rd l0_2 x35_2) < (rd l0_1 x35_2)) = false := decide_eq_false c19; clear c19
           have H' := mk_ H
           clear H
           have p241 : 0 ≤ (x35_2 : Int) := od_
           have q241 : x35_2 < (l0_1.length : Int) := od_
           obtain ⟨ad241, e241, hx241_0⟩ := Kd.at_int HR0_1.out x35_2 p241 q241; cases e241
           replace hx241_0 := (HB.out.cell (World.block_lt_of_cell? w _ hx241_0)).trans hx241_0
           replace p241 := eq_true p241; replace q241 := eq_true q241; have hcz21_0 := bc0_ BK238; have hcz21_1 := bc1_ BK238; have hcz21_2 := bc2_ BK238; have hfz21_0 := bf_ BK238 0; have hfz21_1 := bf_ BK238 1; have hfz21_2 := bf_ BK238 2
           have p242 : 0 ≤ (x35_2 : Int) := od_
           have q242 : x35_2 < (l0_2.length : Int) := od_
           obtain ⟨ad242, e242, hx242_0⟩ := Kd.at_int HR0_2.out x35_2 p242 q242; cases e242
           replace hx242_0 := (HB.out.cell (World.block_lt_of_cell? w _ hx242_0)).trans hx242_0
           replace p242 := eq_true p242; replace q242 := eq_true q242; go_wp2; go_roundg k2
           case measure => have := HJ1.out; have := HK2.out; omega
           case rel => exact ⟨(wrap64 (x35_2 + 1)), rf_, H', ⟨by have := HJ1.out; have := HK2.out; omega⟩, bw_ BK238, ⟨hw_ HB⟩⟩
         ·rw [if_neg c18] at H
          exact absurd H (by simp)
        ·rw [if_neg c17] at H
         exact absurd H (by simp)
       ·rw [if_neg c16] at H
        exact absurd H (by simp)
      ·rw [if_neg c15] at H; have c15b0 : decide (x35_2 < (l0_1.length : Int)) = false := decide_eq_false c15; clear c15; replace H := Option.bind_eq_some_iff.mp H; obtain ⟨t243, A220, H⟩ := H; (try dsimp only at H); have A22 := mk_ A220; clear A220; by_cases c23 : t243 = true
       ·subst c23; rw [if_pos rfl] at H
        replace H := Option.bind_eq_some_iff.mp H; obtain ⟨t244, A240, H⟩ := H
        (try dsimp only at H); have A24 := mk_ A240; clear A240
        obtain rfl := Option.some.inj H; have hcz25_0 := bc0_ BK238
        have hcz25_1 := bc1_ BK238; have hcz25_2 := bc2_ BK238; have hfz25_0 := bf_ BK238 0; have hfz25_1 := bf_ BK238 1; have hfz25_2 := bf_ BK238 2
        go_wp2_with (first | ((with_reducible refine gc_ 64 rfl ?_); refine gl_ (some 50) rfl Try.func64 #[.slice A0_1 l0_1.length c0_1, .int .i64 (-1000), .int .i64 1000] ?_; (with_reducible refine (impl_allIn.calls k2 _ _ l0_1 (-1000) 1000 true _ ?side1 ?side2 A22.out).mono ?_); (case side1 => exact cw_ (Kd.C_below HR0_1.out HB.out)); (case side2 => exact HC0_1.out); rintro e w' ⟨rfl, ⟨nd, rfl⟩⟩; refine ⟨_, rfl, ?_⟩) | (go_at_call 64; (with_reducible refine (impl_allIn.calls k2 _ _ l0_2 (-1000) 1000 t244 _ ?side1 ?side2 A24.out).mono ?_); (case side1 => repeat (first | exact (Kd.C_below HR0_2.out (hw_ HB)) | (with_reducible refine Kd.C_alloc ?_ _) | (with_reducible refine Kd.C_drewN ?_ _) | (with_reducible refine Kd.C_drew ?_))); (case side2 => exact HC0_2.out); rintro e w' ⟨rfl, ⟨nd, rfl⟩⟩))
        go_ret
        exact ⟨re_, hw_ HB⟩
       ·replace c23 := Bool.eq_false_iff.mpr c23; subst c23; rw [if_neg (show ¬ (false = true) by decide)] at H; obtain rfl := Option.some.inj H; have hcz26_0 := bc0_ BK238; have hcz26_1 := bc1_ BK238; have hcz26_2 := bc2_ BK238; have hfz26_0 := bf_ BK238 0; have hfz26_1 := bf_ BK238 1; have hfz26_2 := bf_ BK238 2
        go_wp2_with (first | ((with_reducible refine gc_ 64 rfl ?_); refine gl_ (some 50) rfl Try.func64 #[.slice A0_1 l0_1.length c0_1, .int .i64 (-1000), .int .i64 1000] ?_; (with_reducible refine (impl_allIn.calls k2 _ _ l0_1 (-1000) 1000 false _ ?side1 ?side2 A22.out).mono ?_); (case side1 => exact cw_ (Kd.C_below HR0_1.out HB.out)); (case side2 => exact HC0_1.out); rintro e w' ⟨rfl, ⟨nd, rfl⟩⟩; refine ⟨_, rfl, ?_⟩))
        go_ret
        exact ⟨re_, hw_ HB⟩

/-! ### impl_ladenOk: function 38 -/
def impl_ladenOk.f (k : Nat) (l0_0 : List Int) (l0_1 : List Int) (l0_2 : List Int) (a1_0 : Int) (a1_1 : Int) (l2 : List (S60)) : Option (Bool) := (impl_EnvelopeOk.f k l0_0 l0_1 l0_2).bind fun t247 => (if t247 = true then ((impl_in.f a1_0 0 400000).bind fun t248 => (if t248 = true then ((impl_in.f a1_1 (-100000000) 100000000).bind fun t249 => (if t249 = true then ((impl_tanksOk.f k l2).bind fun t250 => (some t250)) else (some false))) else (some false))) else (some false))
theorem impl_ladenOk.mono : ∀ a0 a1 a2 a3 a4 a5 k, LeO (impl_ladenOk.f k a0 a1 a2 a3 a4 a5) (impl_ladenOk.f (k + 1) a0 a1 a2 a3 a4 a5) := by
 intro a0 a1 a2 a3 a4 a5 k
 unfold impl_ladenOk.f
 repeat' first
   | (with_reducible exact impl_EnvelopeOk.mono _ _ _ _)
   | (with_reducible exact impl_tanksOk.mono _ _)
   | (with_reducible exact LeO.refl _)
   | (with_reducible exact LeO.none _)
   | (with_reducible refine LeO.ite ?_ ?_)
   | (with_reducible refine LeO.bind ?_ (fun _ => ?_))
   | exact impl_EnvelopeOk.mono _ _ _ _
   | exact impl_tanksOk.mono _ _
   | exact LeO.none _
   | refine LeO.ite ?_ ?_
   | refine LeO.bind ?_ (fun _ => ?_)
set_option maxHeartbeats 8000000 in
set_option maxRecDepth 100000 in
theorem impl_ladenOk.calls (k : Nat) (A0_0 : Option Addr) (c0_0 : Nat) (l0_0 : List Int) (A0_1 : Option Addr) (c0_1 : Nat) (l0_1 : List Int) (A0_2 : Option Addr) (c0_2 : Nat) (l0_2 : List Int) (a1_0 : Int) (a1_1 : Int) (A2 : Option Addr) (c2 : Nat) (l2 : List (S60)) (r : Bool) (w : World) (hr0_0 : Kd.C (Kd.int .i64) w A0_0 l0_0.length l0_0) (hc0_0 : l0_0.length ≤ c0_0) (hr0_1 : Kd.C (Kd.int .i64) w A0_1 l0_1.length l0_1) (hc0_1 : l0_1.length ≤ c0_1) (hr0_2 : Kd.C (Kd.int .i64) w A0_2 l0_2.length l0_2) (hc0_2 : l0_2.length ≤ c0_2) (hr2 : Kd.C k60 w A2 l2.length l2) (hc2 : l2.length ≤ c2) (h : impl_ladenOk.f k l0_0 l0_1 l0_2 a1_0 a1_1 l2 = some r) :
  Calls Try.prog 38 #[.agg #[.slice A0_0 l0_0.length c0_0, .slice A0_1 l0_1.length c0_1, .slice A0_2 l0_2.length c0_2], .agg #[.int .i64 a1_0, .int .i64 a1_1], .slice A2 l2.length c2] w fun e w' => e = .returned (.bool r) ∧ Below w.heap.size w w' := by
 have hu33 := Try.underlying33
 have hu35 := Try.underlying35
 have HR0_0 := mk_ hr0_0; have HC0_0 := mk_ hc0_0; clear hr0_0 hc0_0; have HR0_1 := mk_ hr0_1; have HC0_1 := mk_ hc0_1; clear hr0_1 hc0_1; have HR0_2 := mk_ hr0_2; have HC0_2 := mk_ hc0_2; clear hr0_2 hc0_2; have HR2 := mk_ hr2; have HC2 := mk_ hc2; clear hr2 hc2; have HB := mk_ (Below.refl w.heap.size w)
 have H : ((impl_EnvelopeOk.f k l0_0 l0_1 l0_2).bind fun t247 => (if t247 = true then ((impl_in.f a1_0 0 400000).bind fun t248 => (if t248 = true then ((impl_in.f a1_1 (-100000000) 100000000).bind fun t249 => (if t249 = true then ((impl_tanksOk.f k l2).bind fun t250 => (some t250)) else (some false))) else (some false))) else (some false))) = some r := h
 clear h; replace H := Option.bind_eq_some_iff.mp H; obtain ⟨t247, A40, H⟩ := H; (try dsimp only at H); have A4 := mk_ A40; clear A40; by_cases c5 : t247 = true
 ·subst c5; rw [if_pos rfl] at H
  replace H := Option.bind_eq_some_iff.mp H; obtain ⟨t248, A60, H⟩ := H
  (try dsimp only at H); have A6 := mk_ A60; clear A60
  by_cases c7 : t248 = true
  ·subst c7; rw [if_pos rfl] at H
   replace H := Option.bind_eq_some_iff.mp H; obtain ⟨t249, A80, H⟩ := H
   (try dsimp only at H); have A8 := mk_ A80; clear A80
   by_cases c9 : t249 = true
   ·subst c9; rw [if_pos rfl] at H
    replace H := Option.bind_eq_some_iff.mp H; obtain ⟨t250, A100, H⟩ := H
    (try dsimp only at H); have A10 := mk_ A100; clear A100
    obtain rfl := Option.some.inj H
    go_enter Try.func38, Try.ntmps38
    go_wp2_with (first | ((with_reducible refine gd_ 3 rfl ?_); refine box_event ?hg (N := 3) ?hd (cs := #[.slice A0_0 l0_0.length c0_0, .slice A0_1 l0_1.length c0_1, .slice A0_2 l0_2.length c0_2]) (t := 33) ?hr ?_; (case hd => rfl); (case hg => rfl); (case hr => exact hr_); intro gb245 hg w11 hbox hb; have BK245 := mk_ (hbox); have GW245 := gb_ hg HB; replace HB := bp_ HB hb; have GE245 := GW245; clear hb hbox hg) | ((with_reducible refine gd_ 4 rfl ?_); refine box_event ?hg (N := 4) ?hd (cs := #[.int .i64 a1_0, .int .i64 a1_1]) (t := 35) ?hr ?_; (case hd => rfl); (case hg => rfl); (case hr => exact hr_); intro gb246 hg w12 hbox hb; have BK246 := mk_ (hbox); have GW246 := gb_ hg HB; replace HB := bp_ HB hb; have GE246 := GW246; have NB245_246 := nb_ hg BK245; replace BK245 := bl_ BK245 hb; have NB246_245 := ns_ NB245_246; clear hb hbox hg; have hnb13 := NB245_246.out; have hnc13 := NB246_245.out; have hcz14_0 := bc0_ BK245; have hcz14_1 := bc1_ BK245; have hcz14_2 := bc2_ BK245; have hfz14_0 := bf_ BK245 0; have hfz14_1 := bf_ BK245 1; have hfz14_2 := bf_ BK245 2) | ((with_reducible refine gc_ 55 rfl ?_); refine gl_ (some 8) rfl Try.func55 #[.agg #[.slice A0_0 l0_0.length c0_0, .slice A0_1 l0_1.length c0_1, .slice A0_2 l0_2.length c0_2]] ?_; (with_reducible refine (impl_EnvelopeOk.calls k _ _ l0_0 _ _ l0_1 _ _ l0_2 true _ ?side1 ?side2 ?side3 ?side4 ?side5 ?side6 A4.out).mono ?_); (case side1 => exact cw_ (Kd.C_below HR0_0.out HB.out)); (case side2 => exact HC0_0.out); (case side3 => exact cw_ (Kd.C_below HR0_1.out HB.out)); (case side4 => exact HC0_1.out); (case side5 => exact cw_ (Kd.C_below HR0_2.out HB.out)); (case side6 => exact HC0_2.out); rintro e w15 ⟨rfl, hb⟩; refine ⟨_, rfl, ?_⟩; replace BK245 := bl_ BK245 hb; replace BK246 := bl_ BK246 hb; replace HB := bp_ HB hb; (try clear hb); (try clear hb2); (try clear hk); (try clear hi); have hcz16_0 := bc0_ BK246; have hcz16_1 := bc1_ BK246; have hfz16_0 := bf_ BK246 0; have hfz16_1 := bf_ BK246 1) | (go_at_call 48; (with_reducible refine (impl_in.calls a1_0 0 400000 true _ A6.out).mono ?_); rintro e w' ⟨rfl, ⟨nd, rfl⟩⟩) | (go_at_call 48; (with_reducible refine (impl_in.calls a1_1 (-100000000) 100000000 true _ A8.out).mono ?_); rintro e w' ⟨rfl, ⟨nd, rfl⟩⟩) | (go_at_call 50; (with_reducible refine (impl_tanksOk.calls k _ _ l2 t250 _ ?side1 ?side2 A10.out).mono ?_); (case side1 => repeat (first | exact (Kd.C_below HR2.out (hw_ HB)) | (with_reducible refine Kd.C_alloc ?_ _) | (with_reducible refine Kd.C_drewN ?_ _) | (with_reducible refine Kd.C_drew ?_))); (case side2 => exact HC2.out); rintro e w17 ⟨rfl, hb⟩; replace BK245 := bk_ BK245 hb; replace BK246 := bk_ BK246 hb; replace HB := hk_ HB hb; (try clear hb); (try clear hb2); (try clear hk); (try clear hi)))
    go_ret
    exact ⟨re_, hw_ HB⟩
   ·replace c9 := Bool.eq_false_iff.mpr c9; subst c9; rw [if_neg (show ¬ (false = true) by decide)] at H; obtain rfl := Option.some.inj H
    go_enter Try.func38, Try.ntmps38
    go_wp2_with (first | ((with_reducible refine gd_ 3 rfl ?_); refine box_event ?hg (N := 3) ?hd (cs := #[.slice A0_0 l0_0.length c0_0, .slice A0_1 l0_1.length c0_1, .slice A0_2 l0_2.length c0_2]) (t := 33) ?hr ?_; (case hd => rfl); (case hg => rfl); (case hr => exact hr_); intro gb245 hg w18 hbox hb; have BK245 := mk_ (hbox); have GW245 := gb_ hg HB; replace HB := bp_ HB hb; have GE245 := GW245; clear hb hbox hg) | ((with_reducible refine gd_ 4 rfl ?_); refine box_event ?hg (N := 4) ?hd (cs := #[.int .i64 a1_0, .int .i64 a1_1]) (t := 35) ?hr ?_; (case hd => rfl); (case hg => rfl); (case hr => exact hr_); intro gb246 hg w19 hbox hb; have BK246 := mk_ (hbox); have GW246 := gb_ hg HB; replace HB := bp_ HB hb; have GE246 := GW246; have NB245_246 := nb_ hg BK245; replace BK245 := bl_ BK245 hb; have NB246_245 := ns_ NB245_246; clear hb hbox hg; have hnb20 := NB245_246.out; have hnc20 := NB246_245.out; have hcz21_0 := bc0_ BK245; have hcz21_1 := bc1_ BK245; have hcz21_2 := bc2_ BK245; have hfz21_0 := bf_ BK245 0; have hfz21_1 := bf_ BK245 1; have hfz21_2 := bf_ BK245 2) | ((with_reducible refine gc_ 55 rfl ?_); refine gl_ (some 8) rfl Try.func55 #[.agg #[.slice A0_0 l0_0.length c0_0, .slice A0_1 l0_1.length c0_1, .slice A0_2 l0_2.length c0_2]] ?_; (with_reducible refine (impl_EnvelopeOk.calls k _ _ l0_0 _ _ l0_1 _ _ l0_2 true _ ?side1 ?side2 ?side3 ?side4 ?side5 ?side6 A4.out).mono ?_); (case side1 => exact cw_ (Kd.C_below HR0_0.out HB.out)); (case side2 => exact HC0_0.out); (case side3 => exact cw_ (Kd.C_below HR0_1.out HB.out)); (case side4 => exact HC0_1.out); (case side5 => exact cw_ (Kd.C_below HR0_2.out HB.out)); (case side6 => exact HC0_2.out); rintro e w22 ⟨rfl, hb⟩; refine ⟨_, rfl, ?_⟩; replace BK245 := bl_ BK245 hb; replace BK246 := bl_ BK246 hb; replace HB := bp_ HB hb; (try clear hb); (try clear hb2); (try clear hk); (try clear hi); have hcz23_0 := bc0_ BK246; have hcz23_1 := bc1_ BK246; have hfz23_0 := bf_ BK246 0; have hfz23_1 := bf_ BK246 1) | (go_at_call 48; (with_reducible refine (impl_in.calls a1_0 0 400000 true _ A6.out).mono ?_); rintro e w' ⟨rfl, ⟨nd, rfl⟩⟩) | (go_at_call 48; (with_reducible refine (impl_in.calls a1_1 (-100000000) 100000000 false _ A8.out).mono ?_); rintro e w' ⟨rfl, ⟨nd, rfl⟩⟩))
    go_ret
    exact ⟨re_, hw_ HB⟩
  ·replace c7 := Bool.eq_false_iff.mpr c7; subst c7; rw [if_neg (show ¬ (false = true) by decide)] at H; obtain rfl := Option.some.inj H
   go_enter Try.func38, Try.ntmps38
   go_wp2_with (first | ((with_reducible refine gd_ 3 rfl ?_); refine box_event ?hg (N := 3) ?hd (cs := #[.slice A0_0 l0_0.length c0_0, .slice A0_1 l0_1.length c0_1, .slice A0_2 l0_2.length c0_2]) (t := 33) ?hr ?_; (case hd => rfl); (case hg => rfl); (case hr => exact hr_); intro gb245 hg w24 hbox hb; have BK245 := mk_ (hbox); have GW245 := gb_ hg HB; replace HB := bp_ HB hb; have GE245 := GW245; clear hb hbox hg) | ((with_reducible refine gd_ 4 rfl ?_); refine box_event ?hg (N := 4) ?hd (cs := #[.int .i64 a1_0, .int .i64 a1_1]) (t := 35) ?hr ?_; (case hd => rfl); (case hg => rfl); (case hr => exact hr_); intro gb246 hg w25 hbox hb; have BK246 := mk_ (hbox); have GW246 := gb_ hg HB; replace HB := bp_ HB hb; have GE246 := GW246; have NB245_246 := nb_ hg BK245; replace BK245 := bl_ BK245 hb; have NB246_245 := ns_ NB245_246; clear hb hbox hg; have hnb26 := NB245_246.out; have hnc26 := NB246_245.out; have hcz27_0 := bc0_ BK245; have hcz27_1 := bc1_ BK245; have hcz27_2 := bc2_ BK245; have hfz27_0 := bf_ BK245 0; have hfz27_1 := bf_ BK245 1; have hfz27_2 := bf_ BK245 2) | ((with_reducible refine gc_ 55 rfl ?_); refine gl_ (some 8) rfl Try.func55 #[.agg #[.slice A0_0 l0_0.length c0_0, .slice A0_1 l0_1.length c0_1, .slice A0_2 l0_2.length c0_2]] ?_; (with_reducible refine (impl_EnvelopeOk.calls k _ _ l0_0 _ _ l0_1 _ _ l0_2 true _ ?side1 ?side2 ?side3 ?side4 ?side5 ?side6 A4.out).mono ?_); (case side1 => exact cw_ (Kd.C_below HR0_0.out HB.out)); (case side2 => exact HC0_0.out); (case side3 => exact cw_ (Kd.C_below HR0_1.out HB.out)); (case side4 => exact HC0_1.out); (case side5 => exact cw_ (Kd.C_below HR0_2.out HB.out)); (case side6 => exact HC0_2.out); rintro e w28 ⟨rfl, hb⟩; refine ⟨_, rfl, ?_⟩; replace BK245 := bl_ BK245 hb; replace BK246 := bl_ BK246 hb; replace HB := bp_ HB hb; (try clear hb); (try clear hb2); (try clear hk); (try clear hi); have hcz29_0 := bc0_ BK246; have hcz29_1 := bc1_ BK246; have hfz29_0 := bf_ BK246 0; have hfz29_1 := bf_ BK246 1) | (go_at_call 48; (with_reducible refine (impl_in.calls a1_0 0 400000 false _ A6.out).mono ?_); rintro e w' ⟨rfl, ⟨nd, rfl⟩⟩))
   go_ret
   exact ⟨re_, hw_ HB⟩
 ·replace c5 := Bool.eq_false_iff.mpr c5; subst c5; rw [if_neg (show ¬ (false = true) by decide)] at H; obtain rfl := Option.some.inj H
  go_enter Try.func38, Try.ntmps38
  go_wp2_with (first | ((with_reducible refine gd_ 3 rfl ?_); refine box_event ?hg (N := 3) ?hd (cs := #[.slice A0_0 l0_0.length c0_0, .slice A0_1 l0_1.length c0_1, .slice A0_2 l0_2.length c0_2]) (t := 33) ?hr ?_; (case hd => rfl); (case hg => rfl); (case hr => exact hr_); intro gb245 hg w30 hbox hb; have BK245 := mk_ (hbox); have GW245 := gb_ hg HB; replace HB := bp_ HB hb; have GE245 := GW245; clear hb hbox hg) | ((with_reducible refine gd_ 4 rfl ?_); refine box_event ?hg (N := 4) ?hd (cs := #[.int .i64 a1_0, .int .i64 a1_1]) (t := 35) ?hr ?_; (case hd => rfl); (case hg => rfl); (case hr => exact hr_); intro gb246 hg w31 hbox hb; have BK246 := mk_ (hbox); have GW246 := gb_ hg HB; replace HB := bp_ HB hb; have GE246 := GW246; have NB245_246 := nb_ hg BK245; replace BK245 := bl_ BK245 hb; have NB246_245 := ns_ NB245_246; clear hb hbox hg; have hnb32 := NB245_246.out; have hnc32 := NB246_245.out; have hcz33_0 := bc0_ BK245; have hcz33_1 := bc1_ BK245; have hcz33_2 := bc2_ BK245; have hfz33_0 := bf_ BK245 0; have hfz33_1 := bf_ BK245 1; have hfz33_2 := bf_ BK245 2) | ((with_reducible refine gc_ 55 rfl ?_); refine gl_ (some 8) rfl Try.func55 #[.agg #[.slice A0_0 l0_0.length c0_0, .slice A0_1 l0_1.length c0_1, .slice A0_2 l0_2.length c0_2]] ?_; (with_reducible refine (impl_EnvelopeOk.calls k _ _ l0_0 _ _ l0_1 _ _ l0_2 false _ ?side1 ?side2 ?side3 ?side4 ?side5 ?side6 A4.out).mono ?_); (case side1 => exact cw_ (Kd.C_below HR0_0.out HB.out)); (case side2 => exact HC0_0.out); (case side3 => exact cw_ (Kd.C_below HR0_1.out HB.out)); (case side4 => exact HC0_1.out); (case side5 => exact cw_ (Kd.C_below HR0_2.out HB.out)); (case side6 => exact HC0_2.out); rintro e w34 ⟨rfl, hb⟩; refine ⟨_, rfl, ?_⟩; replace BK245 := bl_ BK245 hb; replace BK246 := bl_ BK246 hb; replace HB := bp_ HB hb; (try clear hb); (try clear hb2); (try clear hk); (try clear hi)))
  go_ret
  exact ⟨re_, hw_ HB⟩

/-! ### impl_piece: function 56 -/
def impl_piece.l0 : Nat → List Int → Int → Int → Option (Int)
 | 0, _, _, _ => none
 | k + 1, x0, x1, x5 => if (wrap64 (x5 + 2)) < (x0.length : Int) then (if 0 ≤ (wrap64 (x5 + 1)) then (if (wrap64 (x5 + 1)) < (x0.length : Int) then (if (rd x0 (wrap64 (x5 + 1))) ≤ x1 then (impl_piece.l0 k x0 x1 (wrap64 (x5 + 1))) else (some x5)) else (none)) else (none)) else (some x5)
def impl_piece.f (k : Nat) (l0 : List Int) (a1 : Int) : Option (Int) := impl_piece.l0 k l0 a1 0
theorem impl_piece.mono_l : ∀ k, (∀ y0 y1 y2, LeO (impl_piece.l0 k y0 y1 y2) (impl_piece.l0 (k + 1) y0 y1 y2))
 | 0 => fun _ _ _ r h => by simp [impl_piece.l0] at h
 | k + 1 => by
  have ih0 := impl_piece.mono_l k
  ·intro y0 y1 y2
   unfold impl_piece.l0
   repeat' first
   | (with_reducible exact ih0 _ _ _)
   | (with_reducible exact LeO.refl _)
   | (with_reducible exact LeO.none _)
   | (with_reducible refine LeO.ite ?_ ?_)
   | (with_reducible refine LeO.bind ?_ (fun _ => ?_))
   | exact ih0 _ _ _
   | exact LeO.none _
   | refine LeO.ite ?_ ?_
   | refine LeO.bind ?_ (fun _ => ?_)
theorem impl_piece.mono : ∀ a0 a1 k, LeO (impl_piece.f k a0 a1) (impl_piece.f (k + 1) a0 a1) := by
 intro a0 a1 k
 have ih0 := impl_piece.mono_l k
 unfold impl_piece.f
 repeat' first
   | (with_reducible exact ih0 _ _ _)
   | (with_reducible exact LeO.refl _)
   | (with_reducible exact LeO.none _)
   | (with_reducible refine LeO.ite ?_ ?_)
   | (with_reducible refine LeO.bind ?_ (fun _ => ?_))
   | exact ih0 _ _ _
   | exact LeO.none _
   | refine LeO.ite ?_ ?_
   | refine LeO.bind ?_ (fun _ => ?_)
set_option maxHeartbeats 8000000 in
set_option maxRecDepth 100000 in
theorem impl_piece.calls (k : Nat) (A0 : Option Addr) (c0 : Nat) (l0 : List Int) (a1 : Int) (r : Int) (w : World) (hr0 : Kd.C (Kd.int .i64) w A0 l0.length l0) (hc0 : l0.length ≤ c0) (h : impl_piece.f k l0 a1 = some r) :
  Calls Try.prog 56 #[.slice A0 l0.length c0, .int .i64 a1] w fun e w' => e = .returned (.int .i64 r) ∧ Drawn0 w w' := by
 have HR0 := mk_ hr0; have HC0 := mk_ hc0; clear hr0 hc0
 have H : (impl_piece.l0 k l0 a1 0) = some r := h
 clear h
 have H' := mk_ H
 clear H
 go_enter Try.func56, Try.ntmps56
 go_wp2
 go_loopg [5] k (fun kq v5 w' => ∃ (x5_1 : Int), v5 = .int .i64 x5_1 ∧ Aside0 (impl_piece.l0 kq l0 a1 x5_1 = some r) ∧ Aside0 (kq ≤ k) ∧ Drawn0 w w')
 case atStart => exact ⟨(0), rf_, H', ⟨Nat.le_refl _⟩, by repeat (first | exact Drawn0.refl _ | apply Drawn0.step)⟩
 case round =>
  clear H'
  obtain ⟨x5_1, rfl, HA, HK1, ⟨m1, rfl⟩⟩ := hrel
  cases gk with
  | zero => exact absurd HA.out (by simp [impl_piece.l0])
  | succ k1 =>
   have H := HA.out; clear HA
   simp only [impl_piece.l0] at H
   by_cases c3 : (wrap64 (x5_1 + 2)) < (l0.length : Int)
   ·rw [if_pos c3] at H; have c3b0 : decide ((wrap64 (x5_1 + 2)) < (l0.length : Int)) = true := decide_eq_true c3; clear c3
    obtain ⟨ji4, hji4⟩ : ∃ j_ : Int, (wrap64 (x5_1 + 1)) = j_ := ⟨_, rfl⟩
    replace H : (if 0 ≤ (ji4) then (if (ji4) < (l0.length : Int) then (if (rd l0 (ji4)) ≤ a1 then (impl_piece.l0 k1 l0 a1 ji4) else (some x5_1)) else (none)) else (none)) = some r := by first | (rw [hji4] at H; exact H) | (simp only [hji4] at H ⊢; exact H)
    have hji4w : (IntKind.i64.wrap (x5_1 + 1)) = ji4 := (i64_w _).trans hji4
    by_cases c5 : 0 ≤ (ji4)
    ·rw [if_pos c5] at H; have c5b0 : decide (0 ≤ (ji4)) = true := decide_eq_true c5; clear c5; by_cases c6 : (ji4) < (l0.length : Int)
     ·rw [if_pos c6] at H; have c6b0 : decide ((ji4) < (l0.length : Int)) = true := decide_eq_true c6; clear c6; by_cases c7 : (rd l0 (ji4)) ≤ a1
      ·rw [if_pos c7] at H; have c7b0 : decide ((rd l0 (ji4)) ≤ a1) = true := decide_eq_true c7; clear c7
       have H' := mk_ H
       clear H
       have p251 : 0 ≤ ((ji4) : Int) := od_
       have q251 : (ji4) < (l0.length : Int) := od_
       obtain ⟨ad251, e251, hx251_0⟩ := Kd.at_int HR0.out (ji4) p251 q251; cases e251; replace p251 := eq_true p251; replace q251 := eq_true q251; go_wp2; go_roundg k1
       case measure => have := HK1.out; omega
       case rel => exact ⟨(ji4), (by first | rfl | (simp; done) | (simp only [← hji4] <;> (first | rfl | simp)) | (simp [*]; done)), H', ⟨by have := HK1.out; omega⟩, by repeat (first | exact Drawn0.refl _ | apply Drawn0.step)⟩
      ·rw [if_neg c7] at H; have c7b0 : decide ((rd l0 (ji4)) ≤ a1) = false := decide_eq_false c7; clear c7; obtain rfl := Option.some.inj H
       have p251 : 0 ≤ ((ji4) : Int) := od_
       have q251 : (ji4) < (l0.length : Int) := od_
       obtain ⟨ad251, e251, hx251_0⟩ := Kd.at_int HR0.out (ji4) p251 q251; cases e251; replace p251 := eq_true p251; replace q251 := eq_true q251; go_wp2; go_ret
       exact ⟨by first | rfl | (simp; done) | (simp only [← hji4] <;> (first | rfl | simp)) | (simp [*]; done), by repeat (first | exact Drawn0.refl _ | apply Drawn0.step)⟩
     ·rw [if_neg c6] at H
      exact absurd H (by simp)
    ·rw [if_neg c5] at H
     exact absurd H (by simp)
   ·rw [if_neg c3] at H; have c3b0 : decide ((wrap64 (x5_1 + 2)) < (l0.length : Int)) = false := decide_eq_false c3; clear c3; obtain rfl := Option.some.inj H; go_wp2; go_ret
    exact ⟨by first | rfl | (simp; done) | (simp [*]; done), by repeat (first | exact Drawn0.refl _ | apply Drawn0.step)⟩

/-! ### impl_between: function 57 -/
def impl_between.f (a0 : Int) (a1 : Int) (a2 : Int) (a3 : Int) (a4 : Int) : Option (Int × Int) := some (wrap64 ((wrap64 (a2 * (wrap64 (a1 - a0)))) + (wrap64 ((wrap64 (a3 - a2)) * (wrap64 (a4 - a0))))), wrap64 (a1 - a0))
set_option maxHeartbeats 8000000 in
set_option maxRecDepth 100000 in
theorem impl_between.calls (a0 : Int) (a1 : Int) (a2 : Int) (a3 : Int) (a4 : Int) (r1 : Int) (r2 : Int) (w : World) (h : impl_between.f a0 a1 a2 a3 a4 = some (r1, r2)) :
  Calls Try.prog 57 #[.int .i64 a0, .int .i64 a1, .int .i64 a2, .int .i64 a3, .int .i64 a4] w fun e w' => e = .returned (.tuple #[.int .i64 r1, .int .i64 r2]) ∧ Drawn0 w w' := by
 have H : (some (wrap64 ((wrap64 (a2 * (wrap64 (a1 - a0)))) + (wrap64 ((wrap64 (a3 - a2)) * (wrap64 (a4 - a0))))), wrap64 (a1 - a0))) = some (r1, r2) := h
 clear h
 simp only [Option.some.injEq, Prod.mk.injEq] at H
 obtain ⟨rfl, rfl⟩ := H
 go_enter Try.func57, Try.ntmps57
 go_wp2
 go_ret2
 exact ⟨by first | rfl | (simp; done) | (simp [*]; done), by repeat (first | exact Drawn0.refl _ | apply Drawn0.step)⟩

end Go.Proofs.Yteedbciobdcmaaa.QFnExactOrder
-- squeezed
