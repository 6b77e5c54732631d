/- Lean functions that tell what the Go functions used by one law answer, and for each a proof that the Go code comes to just these answers; no condition. Printed by this session's own program over the kit's printer. -/
import Derived.Test.YteedbciobdcmaaaWSq
import Derived.Test.YteedbciobdcmaaaQFnExactLeavesx0
import Derived.Test.YteedbciobdcmaaaQFnExactLeavesx2
import Derived.Test.YteedbciobdcmaaaQFnExactLeavesx3
import Derived.Test.YteedbciobdcmaaaQFnExactLeavesx5
import Derived.Test.YteedbciobdcmaaaQFnExactLeavesx6
namespace Go.Proofs.Yteedbciobdcmaaa.QFnExactLeaves
open Go.RowKit Go.Proofs.YteedbciobdcmaaaW.PrintWords Go.Proofs.YteedbciobdcmaaaW.PrintLast Go.Proofs.YteedbciobdcmaaaW.PrintMore
attribute [local go_sem] max2_int min2_int max_two min_two max_three min_three max_four min_four   -- for this text's walks alone
attribute [local go_sem high] go_eql go_neq go_lss go_leq go_gtr go_geq go_store   -- for this text's walks alone
set_option linter.unusedVariables false
set_option linter.unusedSimpArgs false

/-! ### spec_Leaves: function 10 -/
mutual
def spec_Leaves.j0 : Nat → List (S60) → List (S62) → Bool → List Int → List Int → List Int → Int → Int → Option (Int)
 | 0, _, _, _, _, _, _, _, _ => none
 | k + 1, x2, x3, x27, x167000, x167001, x167002, x168000, x168001 => if x27 = true then (some (-2)) else (spec_Leaves.l0 k x2 x3 (-1) x167000 x167001 x167002 x168000 x168001)
def spec_Leaves.l0 : Nat → List (S60) → List (S62) → Int → List Int → List Int → List Int → Int → Int → Option (Int)
 | 0, _, _, _, _, _, _, _, _ => none
 | k + 1, x2, x3, x11, x167000, x167001, x167002, x168000, x168001 => if x11 < (x3.length : Int) then (if 0 ≤ (wrap64 (x11 + 1)) then (if (wrap64 (x11 + 1)) ≤ (x3.length : Int) then ((spec_Burnt.f k x2 (x3.take ((wrap64 (x11 + 1)) : Int).toNat)).bind fun bt177 => ((spec_l2With.f k x168000 x168001 bt177.1).bind fun bt181 => ((spec_Inside.f k x167000 x167001 x167002 bt181.1 bt181.2).bind fun t183 => (if t183 = true then (spec_Leaves.l0 k x2 x3 (wrap64 (x11 + 1)) x167000 x167001 x167002 x168000 x168001) else (some x11))))) else (none)) else (none)) else (some (x3.length : Int))
end
def spec_Leaves.f (k : Nat) (l0_0 : List Int) (l0_1 : List Int) (l0_2 : List Int) (a1_0 : Int) (a1_1 : Int) (l2 : List (S60)) (l3 : List (S62)) : Option (Int) := (spec_Burnt.f k l2 l3).bind fun bt168 => ((spec_l2Dry.f k l0_0 l0_1 l0_2 a1_0 a1_1).bind fun t172 => (if t172 = true then (spec_Leaves.j0 k l2 l3 (bt168.2 != (-1)) l0_0 l0_1 l0_2 a1_0 a1_1) else (spec_Leaves.j0 k l2 l3 true l0_0 l0_1 l0_2 a1_0 a1_1)))
theorem spec_Leaves.mono_l : ∀ k, (∀ y0 y1 y2 y3 y4 y5 y6 y7, LeO (spec_Leaves.j0 k y0 y1 y2 y3 y4 y5 y6 y7) (spec_Leaves.j0 (k + 1) y0 y1 y2 y3 y4 y5 y6 y7)) ∧ (∀ y0 y1 y2 y3 y4 y5 y6 y7, LeO (spec_Leaves.l0 k y0 y1 y2 y3 y4 y5 y6 y7) (spec_Leaves.l0 (k + 1) y0 y1 y2 y3 y4 y5 y6 y7))
 | 0 => ⟨fun _ _ _ _ _ _ _ _ r h => by simp [spec_Leaves.j0] at h, fun _ _ _ _ _ _ _ _ r h => by simp [spec_Leaves.l0] at h⟩
 | k + 1 => by
  obtain ⟨ih0, ih1⟩ := spec_Leaves.mono_l k
  refine ⟨?_, ?_⟩
  ·intro y0 y1 y2 y3 y4 y5 y6 y7
   unfold spec_Leaves.j0
   repeat' first
   | (with_reducible exact ih0 _ _ _ _ _ _ _ _)
   | (with_reducible exact ih1 _ _ _ _ _ _ _ _)
   | (with_reducible exact spec_Burnt.mono _ _ _)
   | (with_reducible exact spec_Inside.mono _ _ _ _ _ _)
   | (with_reducible exact spec_l2Dry.mono _ _ _ _ _ _)
   | (with_reducible exact spec_l2With.mono _ _ _ _)
   | (with_reducible exact LeO.refl _)
   | (with_reducible exact LeO.none _)
   | (with_reducible refine LeO.ite ?_ ?_)
   | (with_reducible refine LeO.bind ?_ (fun _ => ?_))
   | exact ih0 _ _ _ _ _ _ _ _
   | exact ih1 _ _ _ _ _ _ _ _
   | exact spec_Burnt.mono _ _ _
   | exact spec_Inside.mono _ _ _ _ _ _
   | exact spec_l2Dry.mono _ _ _ _ _ _
   | exact spec_l2With.mono _ _ _ _
   | exact LeO.none _
   | refine LeO.ite ?_ ?_
   | refine LeO.bind ?_ (fun _ => ?_)
  ·intro y0 y1 y2 y3 y4 y5 y6 y7
   unfold spec_Leaves.l0
   repeat' first
   | (with_reducible exact ih0 _ _ _ _ _ _ _ _)
   | (with_reducible exact ih1 _ _ _ _ _ _ _ _)
   | (with_reducible exact spec_Burnt.mono _ _ _)
   | (with_reducible exact spec_Inside.mono _ _ _ _ _ _)
   | (with_reducible exact spec_l2Dry.mono _ _ _ _ _ _)
   | (with_reducible exact spec_l2With.mono _ _ _ _)
   | (with_reducible exact LeO.refl _)
   | (with_reducible exact LeO.none _)
   | (with_reducible refine LeO.ite ?_ ?_)
   | (with_reducible refine LeO.bind ?_ (fun _ => ?_))
   | exact ih0 _ _ _ _ _ _ _ _
   | exact ih1 _ _ _ _ _ _ _ _
   | exact spec_Burnt.mono _ _ _
   | exact spec_Inside.mono _ _ _ _ _ _
   | exact spec_l2Dry.mono _ _ _ _ _ _
   | exact spec_l2With.mono _ _ _ _
   | exact LeO.none _
   | refine LeO.ite ?_ ?_
   | refine LeO.bind ?_ (fun _ => ?_)
theorem spec_Leaves.mono : ∀ a0 a1 a2 a3 a4 a5 a6 k, LeO (spec_Leaves.f k a0 a1 a2 a3 a4 a5 a6) (spec_Leaves.f (k + 1) a0 a1 a2 a3 a4 a5 a6) := by
 intro a0 a1 a2 a3 a4 a5 a6 k
 obtain ⟨ih0, ih1⟩ := spec_Leaves.mono_l k
 unfold spec_Leaves.f
 repeat' first
   | (with_reducible exact ih0 _ _ _ _ _ _ _ _)
   | (with_reducible exact ih1 _ _ _ _ _ _ _ _)
   | (with_reducible exact spec_Burnt.mono _ _ _)
   | (with_reducible exact spec_Inside.mono _ _ _ _ _ _)
   | (with_reducible exact spec_l2Dry.mono _ _ _ _ _ _)
   | (with_reducible exact spec_l2With.mono _ _ _ _)
   | (with_reducible exact LeO.refl _)
   | (with_reducible exact LeO.none _)
   | (with_reducible refine LeO.ite ?_ ?_)
   | (with_reducible refine LeO.bind ?_ (fun _ => ?_))
   | exact ih0 _ _ _ _ _ _ _ _
   | exact ih1 _ _ _ _ _ _ _ _
   | exact spec_Burnt.mono _ _ _
   | exact spec_Inside.mono _ _ _ _ _ _
   | exact spec_l2Dry.mono _ _ _ _ _ _
   | exact spec_l2With.mono _ _ _ _
   | exact LeO.none _
   | refine LeO.ite ?_ ?_
   | refine LeO.bind ?_ (fun _ => ?_)
set_option maxHeartbeats 8000000 in
set_option maxRecDepth 100000 in
theorem spec_Leaves.calls (k : Nat) (A0_0 : Option Addr) (c0_0 : Nat) (l0_0 : List Int) (A0_1 : Option Addr) (c0_1 : Nat) (l0_1 : List Int) (A0_2 : Option Addr) (c0_2 : Nat) (l0_2 : List Int) (a1_0 : Int) (a1_1 : Int) (A2 : Option Addr) (c2 : Nat) (l2 : List (S60)) (A3 : Option Addr) (c3 : Nat) (l3 : List (S62)) (r : Int) (w : World) (hr0_0 : Kd.C (Kd.int .i64) w A0_0 l0_0.length l0_0) (hc0_0 : l0_0.length ≤ c0_0) (hr0_1 : Kd.C (Kd.int .i64) w A0_1 l0_1.length l0_1) (hc0_1 : l0_1.length ≤ c0_1) (hr0_2 : Kd.C (Kd.int .i64) w A0_2 l0_2.length l0_2) (hc0_2 : l0_2.length ≤ c0_2) (hr2 : Kd.C k60 w A2 l2.length l2) (hc2 : l2.length ≤ c2) (hr3 : Kd.C k62 w A3 l3.length l3) (hc3 : l3.length ≤ c3) (h : spec_Leaves.f k l0_0 l0_1 l0_2 a1_0 a1_1 l2 l3 = some r) :
  Calls Try.prog 10 #[.agg #[.slice A0_0 l0_0.length c0_0, .slice A0_1 l0_1.length c0_1, .slice A0_2 l0_2.length c0_2], .agg #[.int .i64 a1_0, .int .i64 a1_1], .slice A2 l2.length c2, .slice A3 l3.length c3] w fun e w' => e = .returned (.int .i64 r) ∧ Below w.heap.size w w' := by
 have hu33 := Try.underlying33
 have hu35 := Try.underlying35
 have HR0_0 := mk_ hr0_0; have HC0_0 := mk_ hc0_0; clear hr0_0 hc0_0; have HR0_1 := mk_ hr0_1; have HC0_1 := mk_ hc0_1; clear hr0_1 hc0_1; have HR0_2 := mk_ hr0_2; have HC0_2 := mk_ hc0_2; clear hr0_2 hc0_2; have HR2 := mk_ hr2; have HC2 := mk_ hc2; clear hr2 hc2; have HR3 := mk_ hr3; have HC3 := mk_ hc3; clear hr3 hc3; have HB := mk_ (Below.refl w.heap.size w)
 have H : ((spec_Burnt.f k l2 l3).bind fun bt168 => ((spec_l2Dry.f k l0_0 l0_1 l0_2 a1_0 a1_1).bind fun t172 => (if t172 = true then (spec_Leaves.j0 k l2 l3 (bt168.2 != (-1)) l0_0 l0_1 l0_2 a1_0 a1_1) else (spec_Leaves.j0 k l2 l3 true l0_0 l0_1 l0_2 a1_0 a1_1)))) = some r := h
 clear h; replace H := Option.bind_eq_some_iff.mp H; obtain ⟨⟨t168, t169⟩, A50, H⟩ := H; (try dsimp only at H); have A5 := mk_ A50; clear A50; have HC6 := mk_ H; clear H
 go_enter Try.func10, Try.ntmps10
 go_upto_region 2 with (first | ((with_reducible refine gd_ 4 rfl ?_); refine box_event ?hg (N := 4) ?hd (cs := #[.slice A0_0 l0_0.length c0_0, .slice A0_1 l0_1.length c0_1, .slice A0_2 l0_2.length c0_2]) (t := 33) ?hr ?_; (case hd => rfl); (case hg => rfl); (case hr => exact hr_); intro gb166 hg w7 hbox hb; have BK166 := mk_ (hbox); have GW166 := gb_ hg HB; replace HB := bp_ HB hb; have GE166 := GW166; clear hb hbox hg) | ((with_reducible refine gd_ 5 rfl ?_); refine box_event ?hg (N := 5) ?hd (cs := #[.int .i64 a1_0, .int .i64 a1_1]) (t := 35) ?hr ?_; (case hd => rfl); (case hg => rfl); (case hr => exact hr_); intro gb167 hg w8 hbox hb; have BK167 := mk_ (hbox); have GW167 := gb_ hg HB; replace HB := bp_ HB hb; have GE167 := GW167; have NB166_167 := nb_ hg BK166; replace BK166 := bl_ BK166 hb; have NB167_166 := ns_ NB166_167; clear hb hbox hg) | ((with_reducible refine gc_ 25 rfl ?_); refine gl_ (some 17) rfl Try.func25 #[.slice A2 l2.length c2, .slice A3 l3.length c3] ?_; (with_reducible refine (spec_Burnt.calls k _ _ l2 _ _ l3 t168 t169 _ ?side1 ?side2 ?side3 ?side4 A5.out).mono ?_); (case side1 => exact cw_ (Kd.C_below HR2.out HB.out)); (case side2 => exact HC2.out); (case side3 => exact cw_ (Kd.C_below HR3.out HB.out)); (case side4 => exact HC3.out); rintro e w9 ⟨v170, rfl, ho0, hb⟩; refine ⟨_, rfl, ?_⟩; have HO171 := mk_ (Kd.R_lower ho0 (below_size (by exact HB.out))); replace BK166 := bl_ BK166 hb; replace BK167 := bl_ BK167 hb; replace HB := bp_ HB hb; (try clear hb); (try clear hb2); (try clear hk); (try clear hi); (try clear ho0)))
 (try simp only [Act.put, List.setIfInBounds_toArray, List.set_cons_zero, List.set_cons_succ])
 go_cut [27] (fun v27 wc => ∃ (kq : Nat) (x27_5 : Bool), v27 = .bool x27_5 ∧ Aside0 (spec_Leaves.j0 kq l2 l3 x27_5 l0_0 l0_1 l0_2 a1_0 a1_1 = some r) ∧ Aside0 (kq ≤ k) ∧ Aside0 (wc.heap[gb166]? = some (.cells #[(.slice A0_0 l0_0.length c0_0), (.slice A0_1 l0_1.length c0_1), (.slice A0_2 l0_2.length c0_2)] 33 (0, 0))) ∧ Aside0 (wc.heap[gb167]? = some (.cells #[.int .i64 a1_0, .int .i64 a1_1] 35 (0, 0))) ∧ Aside0 (Below w.heap.size w wc))
 case first =>
  have H := HC6.out; clear HC6; replace H := Option.bind_eq_some_iff.mp H; obtain ⟨t172, A100, H⟩ := H; (try dsimp only at H); have A10 := mk_ A100; clear A100; by_cases c11 : t172 = true
  ·subst c11; rw [if_pos rfl] at H
   have H' := mk_ H
   clear H; have hnb12 := NB166_167.out; have hnc12 := NB167_166.out; have hcz13_0 := bc0_ BK166; have hcz13_1 := bc1_ BK166; have hcz13_2 := bc2_ BK166; have hfz13_0 := bf_ BK166 0; have hfz13_1 := bf_ BK166 1; have hfz13_2 := bf_ BK166 2; have hcz14_0 := bc0_ BK167; have hcz14_1 := bc1_ BK167; have hfz14_0 := bf_ BK167 0; have hfz14_1 := bf_ BK167 1
   go_wp2_with (first | ((with_reducible refine gc_ 32 rfl ?_); refine gl_ (some 22) rfl Try.func32 #[.agg #[.slice A0_0 l0_0.length c0_0, .slice A0_1 l0_1.length c0_1, .slice A0_2 l0_2.length c0_2], .agg #[.int .i64 a1_0, .int .i64 a1_1]] ?_; (with_reducible refine (spec_l2Dry.calls k _ _ l0_0 _ _ l0_1 _ _ l0_2 a1_0 a1_1 true _ ?side1 ?side2 ?side3 ?side4 ?side5 ?side6 A10.out).mono ?_); (case side1 => exact cw_ (Kd.C_below HR0_0.out HB.out)); (case side2 => exact HC0_0.out); (case side3 => exact cw_ (Kd.C_below HR0_1.out HB.out)); (case side4 => exact HC0_1.out); (case side5 => exact cw_ (Kd.C_below HR0_2.out HB.out)); (case side6 => exact HC0_2.out); rintro e w15 ⟨rfl, hb⟩; refine ⟨_, rfl, ?_⟩; replace HO171 := rb_ HO171 hb; replace BK166 := bl_ BK166 hb; replace BK167 := bl_ BK167 hb; replace HB := bp_ HB hb; (try clear hb); (try clear hb2); (try clear hk); (try clear hi)))
   go_meet
   case rel => exact ⟨_, ((t169 != (-1))), rf_, H', ⟨by first | omega | exact Nat.le_refl _⟩, bw_ BK166, bw_ BK167, ⟨hw_ HB⟩⟩
  ·replace c11 := Bool.eq_false_iff.mpr c11; subst c11; rw [if_neg (show ¬ (false = true) by decide)] at H
   have H' := mk_ H
   clear H; have hnb16 := NB166_167.out; have hnc16 := NB167_166.out; have hcz17_0 := bc0_ BK166; have hcz17_1 := bc1_ BK166; have hcz17_2 := bc2_ BK166; have hfz17_0 := bf_ BK166 0; have hfz17_1 := bf_ BK166 1; have hfz17_2 := bf_ BK166 2; have hcz18_0 := bc0_ BK167; have hcz18_1 := bc1_ BK167; have hfz18_0 := bf_ BK167 0; have hfz18_1 := bf_ BK167 1
   go_wp2_with (first | ((with_reducible refine gc_ 32 rfl ?_); refine gl_ (some 22) rfl Try.func32 #[.agg #[.slice A0_0 l0_0.length c0_0, .slice A0_1 l0_1.length c0_1, .slice A0_2 l0_2.length c0_2], .agg #[.int .i64 a1_0, .int .i64 a1_1]] ?_; (with_reducible refine (spec_l2Dry.calls k _ _ l0_0 _ _ l0_1 _ _ l0_2 a1_0 a1_1 false _ ?side1 ?side2 ?side3 ?side4 ?side5 ?side6 A10.out).mono ?_); (case side1 => exact cw_ (Kd.C_below HR0_0.out HB.out)); (case side2 => exact HC0_0.out); (case side3 => exact cw_ (Kd.C_below HR0_1.out HB.out)); (case side4 => exact HC0_1.out); (case side5 => exact cw_ (Kd.C_below HR0_2.out HB.out)); (case side6 => exact HC0_2.out); rintro e w19 ⟨rfl, hb⟩; refine ⟨_, rfl, ?_⟩; replace HO171 := rb_ HO171 hb; replace BK166 := bl_ BK166 hb; replace BK167 := bl_ BK167 hb; replace HB := bp_ HB hb; (try clear hb); (try clear hb2); (try clear hk); (try clear hi)))
   go_meet
   case rel => exact ⟨_, (true), rf_, H', ⟨by first | omega | exact Nat.le_refl _⟩, bw_ BK166, bw_ BK167, ⟨hw_ HB⟩⟩
 case rest =>
  clear HC6; (try clear c2); (try clear c3)
  obtain ⟨kq, x27_5, rfl, HA, HJ5, BK166, BK167, HB⟩ := hcut
  cases kq with
  | zero => exact absurd HA.out (by simp [spec_Leaves.j0])
  | succ kj5 =>
   have H := HA.out; clear HA
   simp only [spec_Leaves.j0] at H
   by_cases c20 : x27_5 = true
   ·subst c20; rw [if_pos rfl] at H
    obtain rfl := Option.some.inj H; go_wp2
    go_ret
    exact ⟨re_, hw_ HB⟩
   ·replace c20 := Bool.eq_false_iff.mpr c20; subst c20; rw [if_neg (show ¬ (false = true) by decide)] at H
    have H' := mk_ H
    clear H; go_wp2
    go_loopg [11] kj5 (fun kq v11 w' => ∃ (x11_2 : Int), v11 = .int .i64 x11_2 ∧ Aside0 (spec_Leaves.l0 kq l2 l3 x11_2 l0_0 l0_1 l0_2 a1_0 a1_1 = some r) ∧ Aside0 (kq ≤ kj5) ∧ Aside0 (w'.heap[gb166]? = some (.cells #[(.slice A0_0 l0_0.length c0_0), (.slice A0_1 l0_1.length c0_1), (.slice A0_2 l0_2.length c0_2)] 33 (0, 0))) ∧ Aside0 (w'.heap[gb167]? = some (.cells #[.int .i64 a1_0, .int .i64 a1_1] 35 (0, 0))) ∧ Aside0 (Below w.heap.size w w'))
    case atStart => exact ⟨((-1)), rf_, H', ⟨Nat.le_refl _⟩, bw_ BK166, bw_ BK167, ⟨hw_ HB⟩⟩
    case round =>
     clear H'; (try clear c2); (try clear c3); (try clear c20)
     obtain ⟨x11_2, rfl, HA, HK2, BK166, BK167, HB⟩ := hrel
     cases gk with
     | zero => exact absurd HA.out (by simp [spec_Leaves.l0])
     | succ k2 =>
      have H := HA.out; clear HA
      simp only [spec_Leaves.l0] at H
      by_cases c21 : x11_2 < (l3.length : Int)
      ·rw [if_pos c21] at H; have c21b0 : decide (x11_2 < (l3.length : Int)) = true := decide_eq_true c21; clear c21
       obtain ⟨ji22, hji22⟩ : ∃ j_ : Int, (wrap64 (x11_2 + 1)) = j_ := ⟨_, rfl⟩
       replace H : (if 0 ≤ (ji22) then (if (ji22) ≤ (l3.length : Int) then ((spec_Burnt.f k2 l2 (l3.take ((ji22) : Int).toNat)).bind fun bt177 => ((spec_l2With.f k2 a1_0 a1_1 bt177.1).bind fun bt181 => ((spec_Inside.f k2 l0_0 l0_1 l0_2 bt181.1 bt181.2).bind fun t183 => (if t183 = true then (spec_Leaves.l0 k2 l2 l3 ji22 l0_0 l0_1 l0_2 a1_0 a1_1) else (some x11_2))))) else (none)) else (none)) = some r := by first | (rw [hji22] at H; exact H) | (simp only [hji22] at H ⊢; exact H)
       have hji22w : (IntKind.i64.wrap (x11_2 + 1)) = ji22 := (i64_w _).trans hji22
       by_cases c23 : 0 ≤ (ji22)
       ·rw [if_pos c23] at H
        have c23b0 := eq_true c23
        have c23b1 : decide (0 ≤ (ji22)) = true := decide_eq_true c23; clear c23; by_cases c24 : (ji22) ≤ (l3.length : Int)
        ·rw [if_pos c24] at H
         have c24b0 := eq_true c24
         have c24b1 : decide ((ji22) ≤ (l3.length : Int)) = true := decide_eq_true c24; clear c24
         obtain ⟨y173, hy173⟩ : ∃ y_ : List (S62), y_ = (l3.take ((ji22) : Int).toNat) := ⟨_, rfl⟩
         replace H : ((spec_Burnt.f k2 l2 y173).bind fun bt177 => ((spec_l2With.f k2 a1_0 a1_1 bt177.1).bind fun bt181 => ((spec_Inside.f k2 l0_0 l0_1 l0_2 bt181.1 bt181.2).bind fun t183 => (if t183 = true then (spec_Leaves.l0 k2 l2 l3 ji22 l0_0 l0_1 l0_2 a1_0 a1_1) else (some x11_2))))) = some r := by first | (rw [hy173]; with_reducible exact H) | (have H2_ := (Option.bind_some _ _).symm.trans H; rw [hy173]; with_reducible exact H2_) | (have H2_ := (Option.bind_some _ _).symm.trans H; with_reducible exact H2_) | with_reducible exact H | (rw [hy173]; exact H) | exact H
         have Ny173 := mk_ hy173; clear hy173; replace H := Option.bind_eq_some_iff.mp H; obtain ⟨⟨t177, t178⟩, A250, H⟩ := H; (try dsimp only at H); have A25 := mk_ A250; clear A250; replace H := Option.bind_eq_some_iff.mp H; obtain ⟨⟨t181, t182⟩, A260, H⟩ := H; (try dsimp only at H); have A26 := mk_ A260; clear A260; replace H := Option.bind_eq_some_iff.mp H; obtain ⟨t183, A270, H⟩ := H; (try dsimp only at H); have A27 := mk_ A270; clear A270; by_cases c28 : t183 = true
         ·subst c28; rw [if_pos rfl] at H
          have H' := mk_ H
          clear H
          have q29 : ((ji22) : Int) ≤ ((l3.length : Int) : Int) := od_
          obtain ⟨i029, hi029, _, hsz29, _⟩ := info_parts info62
          have hroom29 : l3.length ≤ c3 := HC3.out
          have hC29 : Kd.C k62 _ A3 l3.length l3 := HR3.out
          have hcut29 := cut_to (P := Try.prog) 39 62 .i64 Try.underlying39 hi029 A3 l3.length c3 (ji22) (od_) q29 hroom29
          have hr29 := Kd.C_take (m := ((ji22) : Int).toNat) hC29 (by omega)
          have hy29 : y173.length = ((ji22) : Int).toNat := (by rw [Ny173.out, List.length_take]; omega)
          rw [← Ny173.out] at hr29
          rw [← hy29] at hcut29
          have HR176 := mk_ hr29; have HC176 := mk_ (show y173.length ≤ c3 from by omega); clear hr29 hC29 hroom29 hi029 hsz29; have KY29 := mk_ hy29; clear hy29; replace q29 := eq_true q29
          try go_wp2_with (first | ((with_reducible refine gc_ 25 rfl ?_); refine gl_ (some 40) rfl Try.func25 #[.slice A2 l2.length c2, .slice A3 y173.length c3] ?_; (with_reducible refine (spec_Burnt.calls k2 _ _ l2 _ _ y173 t177 t178 _ ?side1 ?side2 ?side3 ?side4 A25.out).mono ?_); (case side1 => exact cw_ (Kd.C_below HR2.out HB.out)); (case side2 => exact HC2.out); (case side3 => exact cw_ (Kd.C_below HR176.out HB.out)); (case side4 => exact HC176.out); rintro e w30 ⟨v179, rfl, ho0, hb⟩; refine ⟨_, rfl, ?_⟩; have HO180 := mk_ (Kd.R_lower ho0 (below_size (by exact HB.out))); replace BK166 := bl_ BK166 hb; replace BK167 := bl_ BK167 hb; replace HB := bp_ HB hb; (try clear hb); (try clear hb2); (try clear hk); (try clear hi); (try clear ho0)))
          replace HO180 := dR_ HO180; replace BK166 := dB_ BK166; replace BK167 := dB_ BK167; replace HB := dH_ HB
          obtain ⟨Ao32, co32, eo32⟩ := Kd.R_slice HO180.out
          (first | subst eo32 | (injection eo32 with f1_ f2_ f3_; have f4_ := f1_.symm; have f5_ := f3_.symm; clear f1_ f2_ f3_; subst f4_; subst f5_))
          refine start_ (n := 6) (S := fun w' => w'.cell? ⟨gb166, 0, none⟩ = some (.slice A0_0 l0_0.length c0_0) ∧ w'.cell? ⟨gb166, 1, none⟩ = some (.slice A0_1 l0_1.length c0_1) ∧ w'.cell? ⟨gb166, 2, none⟩ = some (.slice A0_2 l0_2.length c0_2) ∧ w'.cell? ⟨gb167, 0, none⟩ = some (.int .i64 a1_0) ∧ w'.cell? ⟨gb167, 1, none⟩ = some (.int .i64 a1_1)) (ds := []) (bs_ 6 0) (by kernel_rfl) rfl (by kernel_rfl) ⟨bc0_ BK166, bc1_ BK166, bc2_ BK166, bc0_ BK167, bc1_ BK167⟩ (fun hHeld => ?_)
          generalize w30.drew = w31 at HO180 BK166 BK167 HB hHeld ⊢
          refine pu0_ 2 45 (bs_ 6 4) ?_; refine tk0_ 0 43 (bs_ 6 5) hHeld ?_; refine tk0_ 1 44 (bs_ 6 7) hHeld ?_
          refine one_ (i := 3) (N := some 46) (bs_ 6 15) rfl rfl (by kernel_rfl) (by decide) (fun K hK => ?_)
          refine gs_ Try.func34 #[.agg #[.int .i64 a1_0, .int .i64 a1_1], .slice Ao32 t177.length co32] ?_
          with_reducible refine (spec_l2With.calls k2 a1_0 a1_1 _ _ t177 t181 t182 _ ?side1 ?side2 A26.out).mono ?_
          (case side1 => exact cw_ (rr_ HO180))
          (case side2 => exact (Kd.R_reads' HO180.out).2.1)
          rintro e w33 ⟨rfl, hb⟩
          refine ⟨_, rfl, ?_⟩
          replace HO180 := rk_ HO180 hb; replace BK166 := bk_ BK166 hb; replace BK167 := bk_ BK167 hb; replace HB := hk_ HB hb
          (try clear hb); (try clear hb2); (try clear hk); (try clear hi)
          refine hK.out _ _ ⟨bc0_ BK166, bc1_ BK166, bc2_ BK166, bc0_ BK167, bc1_ BK167⟩ (fun hHeld => ?_)
          clear hK K; refine nm_ ?_
          refine one_ (i := 4) (N := some 47) (bs_ 6 31) rfl rfl (by kernel_rfl) (by decide) (fun K hK => ?_)
          refine gs_ Try.func33 #[.agg #[.slice A0_0 l0_0.length c0_0, .slice A0_1 l0_1.length c0_1, .slice A0_2 l0_2.length c0_2], .agg #[.int .i64 t181, .int .i64 t182]] ?_
          with_reducible refine (spec_Inside.calls k2 _ _ l0_0 _ _ l0_1 _ _ l0_2 t181 t182 true _ ?side1 ?side2 ?side3 ?side4 ?side5 ?side6 A27.out).mono ?_
          (case side1 => exact cw_ (Kd.C_below HR0_0.out HB.out))
          (case side2 => exact HC0_0.out)
          (case side3 => exact cw_ (Kd.C_below HR0_1.out HB.out))
          (case side4 => exact HC0_1.out)
          (case side5 => exact cw_ (Kd.C_below HR0_2.out HB.out))
          (case side6 => exact HC0_2.out)
          rintro e w34 ⟨rfl, hb⟩
          refine ⟨_, rfl, ?_⟩
          replace HO180 := rk_ HO180 hb; replace BK166 := bk_ BK166 hb; replace BK167 := bk_ BK167 hb; replace HB := hk_ HB hb
          (try clear hb); (try clear hb2); (try clear hk); (try clear hi)
          refine hK.out _ _ ⟨bc0_ BK166, bc1_ BK166, bc2_ BK166, bc0_ BK167, bc1_ BK167⟩ (fun hHeld => ?_)
          clear hK K; refine nm_ ?_; refine pu0_ 5 48 (bs_ 6 63) ?_
          refine done_ (by kernel_rfl) ?_
          try go_wp2
          go_roundg k2
          case measure => have := HJ5.out; have := HK2.out; omega
          case rel => exact ⟨(ji22), (by first | rfl | (simp; done) | (simp only [← hji22] <;> (first | rfl | simp)) | (simp [*]; done)), H', ⟨by have := HJ5.out; have := HK2.out; omega⟩, bw_ BK166, bw_ BK167, ⟨hw_ HB⟩⟩
         ·replace c28 := Bool.eq_false_iff.mpr c28; subst c28; rw [if_neg (show ¬ (false = true) by decide)] at H; obtain rfl := Option.some.inj H
          have q35 : ((ji22) : Int) ≤ ((l3.length : Int) : Int) := od_
          obtain ⟨i035, hi035, _, hsz35, _⟩ := info_parts info62
          have hroom35 : l3.length ≤ c3 := HC3.out
          have hC35 : Kd.C k62 _ A3 l3.length l3 := HR3.out
          have hcut35 := cut_to (P := Try.prog) 39 62 .i64 Try.underlying39 hi035 A3 l3.length c3 (ji22) (od_) q35 hroom35
          have hr35 := Kd.C_take (m := ((ji22) : Int).toNat) hC35 (by omega)
          have hy35 : y173.length = ((ji22) : Int).toNat := (by rw [Ny173.out, List.length_take]; omega)
          rw [← Ny173.out] at hr35
          rw [← hy35] at hcut35
          have HR176 := mk_ hr35; have HC176 := mk_ (show y173.length ≤ c3 from by omega); clear hr35 hC35 hroom35 hi035 hsz35; have KY35 := mk_ hy35; clear hy35; replace q35 := eq_true q35
          try go_wp2_with (first | ((with_reducible refine gc_ 25 rfl ?_); refine gl_ (some 40) rfl Try.func25 #[.slice A2 l2.length c2, .slice A3 y173.length c3] ?_; (with_reducible refine (spec_Burnt.calls k2 _ _ l2 _ _ y173 t177 t178 _ ?side1 ?side2 ?side3 ?side4 A25.out).mono ?_); (case side1 => exact cw_ (Kd.C_below HR2.out HB.out)); (case side2 => exact HC2.out); (case side3 => exact cw_ (Kd.C_below HR176.out HB.out)); (case side4 => exact HC176.out); rintro e w36 ⟨v179, rfl, ho0, hb⟩; refine ⟨_, rfl, ?_⟩; have HO180 := mk_ (Kd.R_lower ho0 (below_size (by exact HB.out))); replace BK166 := bl_ BK166 hb; replace BK167 := bl_ BK167 hb; replace HB := bp_ HB hb; (try clear hb); (try clear hb2); (try clear hk); (try clear hi); (try clear ho0)))
          replace HO180 := dR_ HO180; replace BK166 := dB_ BK166; replace BK167 := dB_ BK167; replace HB := dH_ HB
          obtain ⟨Ao38, co38, eo38⟩ := Kd.R_slice HO180.out
          (first | subst eo38 | (injection eo38 with f1_ f2_ f3_; have f4_ := f1_.symm; have f5_ := f3_.symm; clear f1_ f2_ f3_; subst f4_; subst f5_))
          refine start_ (n := 6) (S := fun w' => w'.cell? ⟨gb166, 0, none⟩ = some (.slice A0_0 l0_0.length c0_0) ∧ w'.cell? ⟨gb166, 1, none⟩ = some (.slice A0_1 l0_1.length c0_1) ∧ w'.cell? ⟨gb166, 2, none⟩ = some (.slice A0_2 l0_2.length c0_2) ∧ w'.cell? ⟨gb167, 0, none⟩ = some (.int .i64 a1_0) ∧ w'.cell? ⟨gb167, 1, none⟩ = some (.int .i64 a1_1)) (ds := []) (bs_ 6 0) (by kernel_rfl) rfl (by kernel_rfl) ⟨bc0_ BK166, bc1_ BK166, bc2_ BK166, bc0_ BK167, bc1_ BK167⟩ (fun hHeld => ?_)
          generalize w36.drew = w37 at HO180 BK166 BK167 HB hHeld ⊢
          refine pu0_ 2 45 (bs_ 6 4) ?_; refine tk0_ 0 43 (bs_ 6 5) hHeld ?_; refine tk0_ 1 44 (bs_ 6 7) hHeld ?_
          refine one_ (i := 3) (N := some 46) (bs_ 6 15) rfl rfl (by kernel_rfl) (by decide) (fun K hK => ?_)
          refine gs_ Try.func34 #[.agg #[.int .i64 a1_0, .int .i64 a1_1], .slice Ao38 t177.length co38] ?_
          with_reducible refine (spec_l2With.calls k2 a1_0 a1_1 _ _ t177 t181 t182 _ ?side1 ?side2 A26.out).mono ?_
          (case side1 => exact cw_ (rr_ HO180))
          (case side2 => exact (Kd.R_reads' HO180.out).2.1)
          rintro e w39 ⟨rfl, hb⟩
          refine ⟨_, rfl, ?_⟩
          replace HO180 := rk_ HO180 hb; replace BK166 := bk_ BK166 hb; replace BK167 := bk_ BK167 hb; replace HB := hk_ HB hb
          (try clear hb); (try clear hb2); (try clear hk); (try clear hi)
          refine hK.out _ _ ⟨bc0_ BK166, bc1_ BK166, bc2_ BK166, bc0_ BK167, bc1_ BK167⟩ (fun hHeld => ?_)
          clear hK K; refine nm_ ?_
          refine one_ (i := 4) (N := some 47) (bs_ 6 31) rfl rfl (by kernel_rfl) (by decide) (fun K hK => ?_)
          refine gs_ Try.func33 #[.agg #[.slice A0_0 l0_0.length c0_0, .slice A0_1 l0_1.length c0_1, .slice A0_2 l0_2.length c0_2], .agg #[.int .i64 t181, .int .i64 t182]] ?_
          with_reducible refine (spec_Inside.calls k2 _ _ l0_0 _ _ l0_1 _ _ l0_2 t181 t182 false _ ?side1 ?side2 ?side3 ?side4 ?side5 ?side6 A27.out).mono ?_
          (case side1 => exact cw_ (Kd.C_below HR0_0.out HB.out))
          (case side2 => exact HC0_0.out)
          (case side3 => exact cw_ (Kd.C_below HR0_1.out HB.out))
          (case side4 => exact HC0_1.out)
          (case side5 => exact cw_ (Kd.C_below HR0_2.out HB.out))
          (case side6 => exact HC0_2.out)
          rintro e w40 ⟨rfl, hb⟩
          refine ⟨_, rfl, ?_⟩
          replace HO180 := rk_ HO180 hb; replace BK166 := bk_ BK166 hb; replace BK167 := bk_ BK167 hb; replace HB := hk_ HB hb
          (try clear hb); (try clear hb2); (try clear hk); (try clear hi)
          refine hK.out _ _ ⟨bc0_ BK166, bc1_ BK166, bc2_ BK166, bc0_ BK167, bc1_ BK167⟩ (fun hHeld => ?_)
          clear hK K; refine nm_ ?_; refine pu0_ 5 48 (bs_ 6 63) ?_
          refine done_ (by kernel_rfl) ?_
          try go_wp2
          go_ret
          exact ⟨by first | rfl | (simp [errW_none, errW_some] <;> rfl) | (simp only [← hji22]; first | rfl | (simp [errW_none, errW_some] <;> rfl)) | (simp [*, errW_none, errW_some] <;> rfl), hw_ HB⟩
        ·rw [if_neg c24] at H
         exact absurd H (by simp)
       ·rw [if_neg c23] at H
        exact absurd H (by simp)
      ·rw [if_neg c21] at H; have c21b0 : decide (x11_2 < (l3.length : Int)) = false := decide_eq_false c21; clear c21; obtain rfl := Option.some.inj H; go_wp2; go_ret
       exact ⟨re_, hw_ HB⟩

/-! ### laws_toIntS: function 35 -/
def laws_toIntS.l0 : Nat → List Int → List Int → Int → Option (List Int)
 | 0, _, _, _ => none
 | k + 1, x0, x3, x4 => if x4 < (x0.length : Int) then (if 0 ≤ x4 then (if x4 < (x3.length : Int) then (laws_toIntS.l0 k x0 (x3.set (x4 : Int).toNat (rd x0 x4)) (wrap64 (x4 + 1))) else (none)) else (none)) else (some x3)
def laws_toIntS.f (k : Nat) (l0 : List Int) : Option (List Int) := if 0 ≤ (l0.length : Int) then (if ((l0.length : Int) : Int).toNat ≤ 35184372088832 then (laws_toIntS.l0 k l0 (List.replicate ((l0.length : Int) : Int).toNat 0) 0) else (none)) else (none)
theorem laws_toIntS.mono_l : ∀ k, (∀ y0 y1 y2, LeO (laws_toIntS.l0 k y0 y1 y2) (laws_toIntS.l0 (k + 1) y0 y1 y2))
 | 0 => fun _ _ _ r h => by simp [laws_toIntS.l0] at h
 | k + 1 => by
  have ih0 := laws_toIntS.mono_l k
  ·intro y0 y1 y2
   unfold laws_toIntS.l0
   repeat' first
   | (with_reducible exact ih0 _ _ _)
   | (with_reducible exact LeO.refl _)
   | (with_reducible exact LeO.none _)
   | (with_reducible refine LeO.ite ?_ ?_)
   | (with_reducible refine LeO.bind ?_ (fun _ => ?_))
   | exact ih0 _ _ _
   | exact LeO.none _
   | refine LeO.ite ?_ ?_
   | refine LeO.bind ?_ (fun _ => ?_)
theorem laws_toIntS.mono : ∀ a0 k, LeO (laws_toIntS.f k a0) (laws_toIntS.f (k + 1) a0) := by
 intro a0 k
 have ih0 := laws_toIntS.mono_l k
 unfold laws_toIntS.f
 repeat' first
   | (with_reducible exact ih0 _ _ _)
   | (with_reducible exact LeO.refl _)
   | (with_reducible exact LeO.none _)
   | (with_reducible refine LeO.ite ?_ ?_)
   | (with_reducible refine LeO.bind ?_ (fun _ => ?_))
   | exact ih0 _ _ _
   | exact LeO.none _
   | refine LeO.ite ?_ ?_
   | refine LeO.bind ?_ (fun _ => ?_)
set_option maxHeartbeats 8000000 in
set_option maxRecDepth 100000 in
theorem laws_toIntS.calls (k : Nat) (A0 : Option Addr) (c0 : Nat) (l0 : List Int) (r : List Int) (w : World) (hr0 : Kd.C (Kd.int .i64) w A0 l0.length l0) (hc0 : l0.length ≤ c0) (h : laws_toIntS.f k l0 = some r) :
  Calls Try.prog 35 #[.slice A0 l0.length c0] w fun e w' => ∃ v0_ : Value, e = .returned (v0_) ∧ Kd.R (Kd.int .i64) 3 w' w.heap.size (fun _ => True) v0_ r ∧ Below w.heap.size w w' := by
 have HR0 := mk_ hr0; have HC0 := mk_ hc0; clear hr0 hc0; have HB := mk_ (Below.refl w.heap.size w)
 have H : (if 0 ≤ (l0.length : Int) then (if ((l0.length : Int) : Int).toNat ≤ 35184372088832 then (laws_toIntS.l0 k l0 (List.replicate ((l0.length : Int) : Int).toNat 0) 0) else (none)) else (none)) = some r := h
 clear h; by_cases c2 : 0 ≤ (l0.length : Int)
 ·rw [if_pos c2] at H
  have c2b0 := eq_true c2
  have c2b1 : decide (0 ≤ (l0.length : Int)) = true := decide_eq_true c2; clear c2; by_cases c3 : ((l0.length : Int) : Int).toNat ≤ 35184372088832
  ·rw [if_pos c3] at H
   have c3b0 := eq_true c3
   have c3b1 : decide (((l0.length : Int) : Int).toNat ≤ 35184372088832) = true := decide_eq_true c3; clear c3
   obtain ⟨y184, hy184⟩ : ∃ y_ : List Int, y_ = (List.replicate ((l0.length : Int) : Int).toNat 0) := ⟨_, rfl⟩
   replace H : (laws_toIntS.l0 k l0 y184 0) = some r := by first | (rw [hy184]; with_reducible exact H) | (have H2_ := (Option.bind_some _ _).symm.trans H; rw [hy184]; with_reducible exact H2_) | (have H2_ := (Option.bind_some _ _).symm.trans H; with_reducible exact H2_) | with_reducible exact H | (rw [hy184]; exact H) | exact H
   have Ny184 := mk_ hy184; clear hy184
   have H' := mk_ H
   clear H
   go_enter Try.func35, Try.ntmps35
   go_wp2_with (first | ((with_reducible refine gd_ 7 rfl ?_); refine Kd.R_make (Kd.int .i64) _ 3 rfl (N := 7) rfl 22 _ _ rfl (l0.length : Int) rfl rfl Try.underlying22 (.int .i64 0) 8 info3 rfl (by decide) (by omega) 0 (ok := fun _ => True) (okp := fun _ => True) rfl (fun _ hk => hk) trivial (od_) (Nat.le_trans (Nat.mul_le_mul_right _ (od_ : (l0.length : Int).toNat ≤ 35184372088832)) (by omega)) (Below.refl _ _) (Nat.le_refl _) ?_; intro v185 w4 ho5 hb hg_ hnew_; clear hg_ hnew_; (first | rw [← Ny184.out] at ho5 | (simp only [Int.reduceToNat] at ho5; rw [← Ny184.out] at ho5)); have HO186 := mk_ (Kd.R_lower ho5 (below_size (by exact HB.out))); replace HB := bp_ HB hb; clear hb ho5))
   go_loopg [4] k (fun kq v4 w' => ∃ (x3_1 : List Int) (x4_1 : Int), v4 = .int .i64 x4_1 ∧ Aside0 (laws_toIntS.l0 kq l0 x3_1 x4_1 = some r) ∧ Aside0 (kq ≤ k) ∧ Aside0 (Kd.R (Kd.int .i64) 3 w' w.heap.size (fun _ => True) v185 x3_1) ∧ Aside0 (Below w.heap.size w w'))
   case atStart => exact ⟨(y184), (0), rf_, H', ⟨Nat.le_refl _⟩, kw_ HO186, ⟨hw_ HB⟩⟩
   case round =>
    clear H'; (try clear c2); (try clear c2b0); (try clear c2b1); (try clear c3)
    obtain ⟨x3_1, x4_1, rfl, HA, HK1, HO_3, HB⟩ := hrel
    cases gk with
    | zero => exact absurd HA.out (by simp [laws_toIntS.l0])
    | succ k1 =>
     have H := HA.out; clear HA
     simp only [laws_toIntS.l0] at H
     by_cases c6 : x4_1 < (l0.length : Int)
     ·rw [if_pos c6] at H; have c6b0 : decide (x4_1 < (l0.length : Int)) = true := decide_eq_true c6; clear c6; by_cases c7 : 0 ≤ x4_1
      ·rw [if_pos c7] at H; have c7b0 : decide (0 ≤ x4_1) = true := decide_eq_true c7; clear c7; by_cases c8 : x4_1 < (x3_1.length : Int)
       ·rw [if_pos c8] at H; have c8b0 : decide (x4_1 < (x3_1.length : Int)) = true := decide_eq_true c8; clear c8
        obtain ⟨y188, hy188⟩ : ∃ y_ : List Int, y_ = (x3_1.set (x4_1 : Int).toNat (rd l0 x4_1)) := ⟨_, rfl⟩
        replace H : (laws_toIntS.l0 k1 l0 y188 (wrap64 (x4_1 + 1))) = some r := by first | (rw [hy188]; with_reducible exact H) | (have H2_ := (Option.bind_some _ _).symm.trans H; rw [hy188]; with_reducible exact H2_) | (have H2_ := (Option.bind_some _ _).symm.trans H; with_reducible exact H2_) | with_reducible exact H | (rw [hy188]; exact H) | exact H
        have Ny188 := mk_ hy188; clear hy188
        have H' := mk_ H
        clear H
        have p187 : 0 ≤ (x4_1 : Int) := od_
        have q187 : x4_1 < (l0.length : Int) := od_
        obtain ⟨ad187, e187, hx187_0⟩ := Kd.at_int HR0.out x4_1 p187 q187; cases e187
        replace hx187_0 := (HB.out.cell (World.block_lt_of_cell? w _ hx187_0)).trans hx187_0
        replace p187 := eq_true p187; replace q187 := eq_true q187
        have p9 : 0 ≤ (x4_1 : Int) := od_
        have q9 : (x4_1 : Int) < ((x3_1.length : Int) : Int) := od_
        obtain ⟨go9, co9, eo9, gb9, gl9, cl9, HG9⟩ := Kd.R_form HO_3.out (by omega)
        (first | cases eo9 | (injection eo9 with ea_ en_ ec_; (first | subst ea_ | (injection ea_ with ea_; subst ea_)); subst ec_; clear en_))
        have GB9 := mk_ gb9; have GG9 := mk_ HG9; clear gb9 gl9 HG9
        obtain ⟨hx9_0, hf9_0⟩ := Kd.R_celln 0 HO_3.out (x4_1 : Int) p9 q9
        replace p9 := eq_true p9; replace q9 := eq_true q9
        have HP10 := Kd.R_putg HO_3.out (x4_1 : Int) (rd l0 x4_1)
        go_wp2_with (first | ((with_reducible refine gate_store (t := 3) (p := 20) rfl ?_); refine store_event (t := 3) (p := 20) (v := ?vo_w11) (w1 := (wr.setCell ⟨go9, (x4_1 : Int).toNat, none⟩ (.int .i64 (rd l0 x4_1)))) ?hg ?ho ?hn ?hr ?_; (case ho => rfl); (case hg => rfl); (case hn => rfl); (case hr => exact hr_); intro w11 hw; have hg : wr.grownBy w11 (some go9) := (by rw [hw]; exact HP10.2); have hp_ : Kd.R (Kd.int .i64) 3 w11 w.heap.size (fun _ => True) (.slice (some ⟨go9, 0, none⟩) x3_1.length co9) y188 := (by rw [hw, Ny188.out]; exact HP10.1); clear HP10; replace HO_3 := mk_ (hp_); replace HB := mk_ ((by rw [hw]; exact below_set (HB.out) GB9.out : Below w.heap.size w w11)); clear hg hw hp_))
        go_roundg k1
        case measure => have := HK1.out; omega
        case rel => exact ⟨(y188), (wrap64 (x4_1 + 1)), rf_, H', ⟨by have := HK1.out; omega⟩, kw_ HO_3, ⟨hw_ HB⟩⟩
       ·rw [if_neg c8] at H
        exact absurd H (by simp)
      ·rw [if_neg c7] at H
       exact absurd H (by simp)
     ·rw [if_neg c6] at H; have c6b0 : decide (x4_1 < (l0.length : Int)) = false := decide_eq_false c6; clear c6; obtain rfl := Option.some.inj H; go_wp2; go_ret
      exact ⟨_, re_, by (with_reducible repeat (first | apply Kd.R_alloc | apply Kd.R_drewN | apply Kd.R_drew)); exact HO_3.out, hw_ HB⟩
  ·rw [if_neg c3] at H
   exact absurd H (by simp)
 ·rw [if_neg c2] at H
  exact absurd H (by simp)

/-! ### laws_toEnvelope: function 11 -/
def laws_toEnvelope.f (k : Nat) (l0_0 : List Int) (l0_1 : List Int) (l0_2 : List Int) : Option (List Int × List Int × List Int) := (laws_toIntS.f k l0_0).bind fun t192 => ((laws_toIntS.f k l0_1).bind fun t195 => ((laws_toIntS.f k l0_2).bind fun t198 => (some (t192, t195, t198))))
theorem laws_toEnvelope.mono : ∀ a0 a1 a2 k, LeO (laws_toEnvelope.f k a0 a1 a2) (laws_toEnvelope.f (k + 1) a0 a1 a2) := by
 intro a0 a1 a2 k
 unfold laws_toEnvelope.f
 repeat' first
   | (with_reducible exact laws_toIntS.mono _ _)
   | (with_reducible exact LeO.refl _)
   | (with_reducible exact LeO.none _)
   | (with_reducible refine LeO.ite ?_ ?_)
   | (with_reducible refine LeO.bind ?_ (fun _ => ?_))
   | exact laws_toIntS.mono _ _
   | exact LeO.none _
   | refine LeO.ite ?_ ?_
   | refine LeO.bind ?_ (fun _ => ?_)
set_option maxHeartbeats 8000000 in
set_option maxRecDepth 100000 in
theorem laws_toEnvelope.calls (k : Nat) (A0_0 : Option Addr) (c0_0 : Nat) (l0_0 : List Int) (A0_1 : Option Addr) (c0_1 : Nat) (l0_1 : List Int) (A0_2 : Option Addr) (c0_2 : Nat) (l0_2 : List Int) (r1 : List Int) (r2 : List Int) (r3 : List Int) (w : World) (hr0_0 : Kd.C (Kd.int .i64) w A0_0 l0_0.length l0_0) (hc0_0 : l0_0.length ≤ c0_0) (hr0_1 : Kd.C (Kd.int .i64) w A0_1 l0_1.length l0_1) (hc0_1 : l0_1.length ≤ c0_1) (hr0_2 : Kd.C (Kd.int .i64) w A0_2 l0_2.length l0_2) (hc0_2 : l0_2.length ≤ c0_2) (h : laws_toEnvelope.f k l0_0 l0_1 l0_2 = some (r1, r2, r3)) :
  Calls Try.prog 11 #[.agg #[.slice A0_0 l0_0.length c0_0, .slice A0_1 l0_1.length c0_1, .slice A0_2 l0_2.length c0_2]] w fun e w' => ∃ v0_ v1_ v2_ : Value, e = .returned (.agg #[v0_, v1_, v2_]) ∧ Kd.R (Kd.int .i64) 3 w' w.heap.size (fun k_ => some k_ ≠ (v1_ : Value).ownBlock ∧ some k_ ≠ (v2_ : Value).ownBlock) v0_ r1 ∧ Kd.R (Kd.int .i64) 3 w' w.heap.size (fun k_ => some k_ ≠ (v0_ : Value).ownBlock ∧ some k_ ≠ (v2_ : Value).ownBlock) v1_ r2 ∧ Kd.R (Kd.int .i64) 3 w' w.heap.size (fun k_ => some k_ ≠ (v0_ : Value).ownBlock ∧ some k_ ≠ (v1_ : Value).ownBlock) v2_ r3 ∧ Below w.heap.size w w' := by
 have hu24 := Try.underlying24
 have hu33 := Try.underlying33
 have HR0_0 := mk_ hr0_0; have HC0_0 := mk_ hc0_0; clear hr0_0 hc0_0; have HR0_1 := mk_ hr0_1; have HC0_1 := mk_ hc0_1; clear hr0_1 hc0_1; have HR0_2 := mk_ hr0_2; have HC0_2 := mk_ hc0_2; clear hr0_2 hc0_2; have HB := mk_ (Below.refl w.heap.size w)
 have H : ((laws_toIntS.f k l0_0).bind fun t192 => ((laws_toIntS.f k l0_1).bind fun t195 => ((laws_toIntS.f k l0_2).bind fun t198 => (some (t192, t195, t198))))) = some (r1, r2, r3) := h
 clear h; replace H := Option.bind_eq_some_iff.mp H; obtain ⟨t192, A20, H⟩ := H
 replace H : ((laws_toIntS.f k l0_1).bind fun t195 => ((laws_toIntS.f k l0_2).bind fun t198 => (some (t192, t195, t198)))) = some (r1, r2, r3) := H
 have A2 := mk_ A20; clear A20; replace H := Option.bind_eq_some_iff.mp H; obtain ⟨t195, A30, H⟩ := H
 replace H : ((laws_toIntS.f k l0_2).bind fun t198 => (some (t192, t195, t198))) = some (r1, r2, r3) := H
 have A3 := mk_ A30; clear A30; replace H := Option.bind_eq_some_iff.mp H; obtain ⟨t198, A40, H⟩ := H
 replace H : (some (t192, t195, t198)) = some (r1, r2, r3) := H
 have A4 := mk_ A40; clear A40
 simp only [Option.some.injEq, Prod.mk.injEq] at H
 obtain ⟨rfl, rfl, rfl⟩ := H
 go_enter Try.func11, Try.ntmps11
 go_wp2_with (first | ((with_reducible refine gd_ 1 rfl ?_); refine box_event ?hg (N := 1) ?hd (cs := #[.slice A0_0 l0_0.length c0_0, .slice A0_1 l0_1.length c0_1, .slice A0_2 l0_2.length c0_2]) (t := 24) ?hr ?_; (case hd => rfl); (case hg => rfl); (case hr => exact hr_); intro gb189 hg w5 hbox hb; have BK189 := mk_ (hbox); have GW189 := gb_ hg HB; replace HB := bp_ HB hb; have GE189 := GW189; clear hb hbox hg) | ((with_reducible refine gd_ 2 rfl ?_); refine box_event ?hg (N := 2) ?hd (cs := #[.slice none 0 0, .slice none 0 0, .slice none 0 0]) (t := 33) ?hr ?_; (case hd => rfl); (case hg => rfl); (case hr => exact hr_); intro gb190 hg w6 hbox hb; have BK190 := mk_ (hbox); have GW190 := gb_ hg HB; replace HB := bp_ HB hb; have GE190 := GW190; have NB189_190 := nb_ hg BK189; replace BK189 := bl_ BK189 hb; have NB190_189 := ns_ NB189_190; clear hb hbox hg) | ((with_reducible refine gd_ 3 rfl ?_); refine box_event ?hg (N := 3) ?hd (cs := #[.slice none 0 0, .slice none 0 0, .slice none 0 0]) (t := 33) ?hr ?_; (case hd => rfl); (case hg => rfl); (case hr => exact hr_); intro gb191 hg w7 hbox hb; have BK191 := mk_ (hbox); have GW191 := gb_ hg HB; replace HB := bp_ HB hb; have GE191 := GW191; have NB189_191 := nb_ hg BK189; replace BK189 := bl_ BK189 hb; have NB191_189 := ns_ NB189_191; have NB190_191 := nb_ hg BK190; replace BK190 := bl_ BK190 hb; have NB191_190 := ns_ NB190_191; clear hb hbox hg; have hnb8 := NB189_190.out; have hnc8 := NB190_189.out; have hnb9 := NB189_191.out; have hnc9 := NB191_189.out; have hcz10_0 := bc0_ BK189; have hcz10_1 := bc1_ BK189; have hcz10_2 := bc2_ BK189; have hfz10_0 := bf_ BK189 0; have hfz10_1 := bf_ BK189 1; have hfz10_2 := bf_ BK189 2) | ((with_reducible refine gc_ 35 rfl ?_); refine gl_ (some 6) rfl Try.func35 #[.slice A0_0 l0_0.length c0_0] ?_; (with_reducible refine (laws_toIntS.calls k _ _ l0_0 t192 _ ?side1 ?side2 A2.out).mono ?_); (case side1 => exact cw_ (Kd.C_below HR0_0.out HB.out)); (case side2 => exact HC0_0.out); rintro e w11 ⟨v193, rfl, ho0, hb⟩; refine ⟨_, rfl, ?_⟩; have HO194 := mk_ (Kd.R_lower ho0 (below_size (by exact HB.out))); replace BK189 := bl_ BK189 hb; replace BK190 := bl_ BK190 hb; replace BK191 := bl_ BK191 hb; replace HB := bp_ HB hb; (try clear hb); (try clear hb2); (try clear hk); (try clear hi); (try clear ho0); obtain ⟨Ao12, co12, eo12⟩ := Kd.R_slice HO194.out; subst eo12; have hnb13 := NB191_190.out; have hnc13 := NB190_191.out; have hcz14_0 := bc0_ BK191; have hcz14_1 := bc1_ BK191; have hcz14_2 := bc2_ BK191; have hfz14_0 := bf_ BK191 0; have hfz14_1 := bf_ BK191 1; have hfz14_2 := bf_ BK191 2; have hcz15_0 := bc0_ BK189; have hcz15_1 := bc1_ BK189; have hcz15_2 := bc2_ BK189; have hfz15_0 := bf_ BK189 0; have hfz15_1 := bf_ BK189 1; have hfz15_2 := bf_ BK189 2) | ((with_reducible refine gc_ 35 rfl ?_); refine gl_ (some 10) rfl Try.func35 #[.slice A0_1 l0_1.length c0_1] ?_; (with_reducible refine (laws_toIntS.calls k _ _ l0_1 t195 _ ?side1 ?side2 A3.out).mono ?_); (case side1 => exact Kd.C_below HR0_1.out (by repeat (first | (with_reducible first | exact HB.out | apply below_alloc | apply pw_below_drewN | apply below_drew1 | refine below_set ?_ GE191.out) | exact HB.out))); (case side2 => exact HC0_1.out); rintro e w16 ⟨v196, rfl, ho0, hb⟩; refine ⟨_, rfl, ?_⟩; have HO197 := mk_ (Kd.R_lower (Kd.R_new' ho0 (Kd.R_lt (by (with_reducible repeat (first | apply Kd.R_alloc | apply Kd.R_drewN | apply Kd.R_drew)); exact (Kd.R_mono (Kd.R_far (p := ⟨gb191, 0, none⟩) (Kd.R_types HO194.out BK191.out (by decide)) (fun _ hk => hk.2) (.slice Ao12 t192.length co12)) (fun _ h_ => h_.1))))) (below_size (by repeat (first | (with_reducible first | exact HB.out | apply below_alloc | apply pw_below_drewN | apply below_drew1 | refine below_set ?_ GE191.out) | exact HB.out)))); replace HO194 := mk_ (Kd.R_elder' (by (with_reducible repeat (first | apply Kd.R_alloc | apply Kd.R_drewN | apply Kd.R_drew)); exact (Kd.R_mono (Kd.R_far (p := ⟨gb191, 0, none⟩) (Kd.R_types HO194.out BK191.out (by decide)) (fun _ hk => hk.2) (.slice Ao12 t192.length co12)) (fun _ h_ => h_.1))) (Kd.R_base ho0) hb); replace BK189 := mk_ (blk_below (g := gb189) (o := .cells #[.slice A0_0 l0_0.length c0_0, .slice A0_1 l0_1.length c0_1, .slice A0_2 l0_2.length c0_2] 24 (0, 0)) (by (with_reducible repeat (first | refine blk_drewN ?_ _ | refine blk_drew ?_ | refine blk_alloc ?_ _)); refine blk_far ?_ NB189_191.out _; (with_reducible repeat (first | refine blk_drewN ?_ _ | refine blk_drew ?_ | refine blk_alloc ?_ _)); exact BK189.out) hb); replace BK190 := mk_ (blk_below (g := gb190) (o := .cells #[.slice none 0 0, .slice none 0 0, .slice none 0 0] 33 (0, 0)) (by (with_reducible repeat (first | refine blk_drewN ?_ _ | refine blk_drew ?_ | refine blk_alloc ?_ _)); refine blk_far ?_ NB190_191.out _; (with_reducible repeat (first | refine blk_drewN ?_ _ | refine blk_drew ?_ | refine blk_alloc ?_ _)); exact BK190.out) hb); replace BK191 := mk_ (blk_below (g := gb191) (o := .cells #[.slice Ao12 t192.length co12, .slice none 0 0, .slice none 0 0] 33 (0, 0)) (by (with_reducible repeat (first | refine blk_drewN ?_ _ | refine blk_drew ?_ | refine blk_alloc ?_ _)); refine blk_put (cs := #[.slice none 0 0, .slice none 0 0, .slice none 0 0]) ?_ 0 _ rfl; (with_reducible repeat (first | refine blk_drewN ?_ _ | refine blk_drew ?_ | refine blk_alloc ?_ _)); exact BK191.out) hb); replace HB := mk_ (below_step (by repeat (first | (with_reducible first | exact HB.out | apply below_alloc | apply pw_below_drewN | apply below_drew1 | refine below_set ?_ GE191.out) | exact HB.out)) hb); (try clear hb); (try clear hb2); (try clear hk); (try clear hi); (try clear ho0); obtain ⟨Ao17, co17, eo17⟩ := Kd.R_slice HO197.out; subst eo17; have hcz18_0 := bc0_ BK191; have hcz18_1 := bc1_ BK191; have hcz18_2 := bc2_ BK191; have hfz18_0 := bf_ BK191 0; have hfz18_1 := bf_ BK191 1; have hfz18_2 := bf_ BK191 2; have hcz19_0 := bc0_ BK189; have hcz19_1 := bc1_ BK189; have hcz19_2 := bc2_ BK189; have hfz19_0 := bf_ BK189 0; have hfz19_1 := bf_ BK189 1; have hfz19_2 := bf_ BK189 2) | ((with_reducible refine gc_ 35 rfl ?_); refine gl_ (some 14) rfl Try.func35 #[.slice A0_2 l0_2.length c0_2] ?_; (with_reducible refine (laws_toIntS.calls k _ _ l0_2 t198 _ ?side1 ?side2 A4.out).mono ?_); (case side1 => exact Kd.C_below HR0_2.out (by repeat (first | (with_reducible first | exact HB.out | apply below_alloc | apply pw_below_drewN | apply below_drew1 | refine below_set ?_ GE191.out) | exact HB.out))); (case side2 => exact HC0_2.out); rintro e w20 ⟨v199, rfl, ho0, hb⟩; refine ⟨_, rfl, ?_⟩; have HO200 := mk_ (Kd.R_lower (Kd.R_new' (Kd.R_new' ho0 (Kd.R_lt (by (with_reducible repeat (first | apply Kd.R_alloc | apply Kd.R_drewN | apply Kd.R_drew)); exact (Kd.R_mono (Kd.R_far (p := ⟨gb191, 1, none⟩) (Kd.R_types HO194.out BK191.out (by decide)) (fun _ hk => hk.2) (.slice Ao17 t195.length co17)) (fun _ h_ => h_.1))))) (Kd.R_lt (by (with_reducible repeat (first | apply Kd.R_alloc | apply Kd.R_drewN | apply Kd.R_drew)); exact (Kd.R_mono (Kd.R_far (p := ⟨gb191, 1, none⟩) (Kd.R_types HO197.out BK191.out (by decide)) (fun _ hk => hk.2) (.slice Ao17 t195.length co17)) (fun _ h_ => h_.1))))) (below_size (by repeat (first | (with_reducible first | exact HB.out | apply below_alloc | apply pw_below_drewN | apply below_drew1 | refine below_set ?_ GE191.out) | exact HB.out)))); replace HO194 := mk_ (Kd.R_elder' (by (with_reducible repeat (first | apply Kd.R_alloc | apply Kd.R_drewN | apply Kd.R_drew)); exact (Kd.R_mono (Kd.R_far (p := ⟨gb191, 1, none⟩) (Kd.R_types HO194.out BK191.out (by decide)) (fun _ hk => hk.2) (.slice Ao17 t195.length co17)) (fun _ h_ => h_.1))) (Kd.R_base ho0) hb); replace HO197 := mk_ (Kd.R_elder' (by (with_reducible repeat (first | apply Kd.R_alloc | apply Kd.R_drewN | apply Kd.R_drew)); exact (Kd.R_mono (Kd.R_far (p := ⟨gb191, 1, none⟩) (Kd.R_types HO197.out BK191.out (by decide)) (fun _ hk => hk.2) (.slice Ao17 t195.length co17)) (fun _ h_ => h_.1))) (Kd.R_base ho0) hb); replace BK189 := mk_ (blk_below (g := gb189) (o := .cells #[.slice A0_0 l0_0.length c0_0, .slice A0_1 l0_1.length c0_1, .slice A0_2 l0_2.length c0_2] 24 (0, 0)) (by (with_reducible repeat (first | refine blk_drewN ?_ _ | refine blk_drew ?_ | refine blk_alloc ?_ _)); refine blk_far ?_ NB189_191.out _; (with_reducible repeat (first | refine blk_drewN ?_ _ | refine blk_drew ?_ | refine blk_alloc ?_ _)); exact BK189.out) hb); replace BK190 := mk_ (blk_below (g := gb190) (o := .cells #[.slice none 0 0, .slice none 0 0, .slice none 0 0] 33 (0, 0)) (by (with_reducible repeat (first | refine blk_drewN ?_ _ | refine blk_drew ?_ | refine blk_alloc ?_ _)); refine blk_far ?_ NB190_191.out _; (with_reducible repeat (first | refine blk_drewN ?_ _ | refine blk_drew ?_ | refine blk_alloc ?_ _)); exact BK190.out) hb); replace BK191 := mk_ (blk_below (g := gb191) (o := .cells #[.slice Ao12 t192.length co12, .slice Ao17 t195.length co17, .slice none 0 0] 33 (0, 0)) (by (with_reducible repeat (first | refine blk_drewN ?_ _ | refine blk_drew ?_ | refine blk_alloc ?_ _)); refine blk_put (cs := #[.slice Ao12 t192.length co12, .slice none 0 0, .slice none 0 0]) ?_ 1 _ rfl; (with_reducible repeat (first | refine blk_drewN ?_ _ | refine blk_drew ?_ | refine blk_alloc ?_ _)); exact BK191.out) hb); replace HB := mk_ (below_step (by repeat (first | (with_reducible first | exact HB.out | apply below_alloc | apply pw_below_drewN | apply below_drew1 | refine below_set ?_ GE191.out) | exact HB.out)) hb); (try clear hb); (try clear hb2); (try clear hk); (try clear hi); (try clear ho0); obtain ⟨Ao21, co21, eo21⟩ := Kd.R_slice HO200.out; subst eo21; have hcz22_0 := bc0_ BK191; have hcz22_1 := bc1_ BK191; have hcz22_2 := bc2_ BK191; have hfz22_0 := bf_ BK191 0; have hfz22_1 := bf_ BK191 1; have hfz22_2 := bf_ BK191 2; have hcz23_0 := bc0_ BK190; have hcz23_1 := bc1_ BK190; have hcz23_2 := bc2_ BK190; have hfz23_0 := bf_ BK190 0; have hfz23_1 := bf_ BK190 1; have hfz23_2 := bf_ BK190 2))
 refine bodyPost_ret (results_cell_row rfl _ _ gb190 33 #[.slice Ao12 t192.length co12, .slice Ao17 t195.length co17, .slice Ao21 t198.length co21] (0, 0) _ rfl (by (with_reducible repeat (first | refine blk_drewN ?_ _ | refine blk_drew ?_ | refine blk_alloc ?_ _)); refine blk_put (cs := #[.slice Ao12 t192.length co12, .slice Ao17 t195.length co17, .slice none 0 0]) ?_ 2 _ rfl; (with_reducible repeat (first | refine blk_drewN ?_ _ | refine blk_drew ?_ | refine blk_alloc ?_ _)); refine blk_put (cs := #[.slice Ao12 t192.length co12, .slice none 0 0, .slice none 0 0]) ?_ 1 _ rfl; (with_reducible repeat (first | refine blk_drewN ?_ _ | refine blk_drew ?_ | refine blk_alloc ?_ _)); refine blk_put (cs := #[.slice none 0 0, .slice none 0 0, .slice none 0 0]) ?_ 0 _ rfl; (with_reducible repeat (first | refine blk_drewN ?_ _ | refine blk_drew ?_ | refine blk_alloc ?_ _)); refine blk_far ?_ NB190_191.out _; (with_reducible repeat (first | refine blk_drewN ?_ _ | refine blk_drew ?_ | refine blk_alloc ?_ _)); exact BK190.out) Try.underlying33 rfl (by kernel_rfl)) rfl ?_
 exact ⟨_, _, _, re_, by (with_reducible repeat (first | apply Kd.R_alloc | apply Kd.R_drewN | apply Kd.R_drew)); exact Kd.R_mono (Kd.R_far (p := ⟨gb190, 2, none⟩) (Kd.R_far (p := ⟨gb190, 1, none⟩) (Kd.R_far (p := ⟨gb190, 0, none⟩) (Kd.R_far (p := ⟨gb191, 2, none⟩) (Kd.R_types (Kd.R_types HO194.out BK191.out (by decide)) BK190.out (by decide)) (fun _ hk => hk.1.2) (.slice Ao21 t198.length co21)) (fun _ hk => hk.2) (.slice Ao12 t192.length co12)) (fun _ hk => hk.2) (.slice Ao17 t195.length co17)) (fun _ hk => hk.2) (.slice Ao21 t198.length co21)) (fun _ hk => ⟨hk.1.1.1.2, hk.1.1.2⟩), by (with_reducible repeat (first | apply Kd.R_alloc | apply Kd.R_drewN | apply Kd.R_drew)); exact Kd.R_mono (Kd.R_far (p := ⟨gb190, 2, none⟩) (Kd.R_far (p := ⟨gb190, 1, none⟩) (Kd.R_far (p := ⟨gb190, 0, none⟩) (Kd.R_far (p := ⟨gb191, 2, none⟩) (Kd.R_types (Kd.R_types HO197.out BK191.out (by decide)) BK190.out (by decide)) (fun _ hk => hk.1.2) (.slice Ao21 t198.length co21)) (fun _ hk => hk.2) (.slice Ao12 t192.length co12)) (fun _ hk => hk.2) (.slice Ao17 t195.length co17)) (fun _ hk => hk.2) (.slice Ao21 t198.length co21)) (fun _ hk => ⟨hk.1.1.1.2, hk.1.1.2⟩), by (with_reducible repeat (first | apply Kd.R_alloc | apply Kd.R_drewN | apply Kd.R_drew)); exact Kd.R_mono (Kd.R_far (p := ⟨gb190, 2, none⟩) (Kd.R_far (p := ⟨gb190, 1, none⟩) (Kd.R_far (p := ⟨gb190, 0, none⟩) (Kd.R_far (p := ⟨gb191, 2, none⟩) (Kd.R_types (Kd.R_types HO200.out BK191.out (by decide)) BK190.out (by decide)) (fun _ hk => hk.1.2) (.slice Ao21 t198.length co21)) (fun _ hk => hk.2) (.slice Ao12 t192.length co12)) (fun _ hk => hk.2) (.slice Ao17 t195.length co17)) (fun _ hk => hk.2) (.slice Ao21 t198.length co21)) (fun _ hk => ⟨hk.1.1.1.2, hk.1.1.2⟩), by repeat (first | (with_reducible first | exact HB.out | apply below_alloc | apply pw_below_drewN | apply below_drew1 | refine below_set ?_ GE190.out | refine below_set ?_ GE191.out) | exact HB.out)⟩

/-! ### laws_toSum2: function 12 -/
def laws_toSum2.f (a0_0 : Int) (a0_1 : Int) : Option (Int × Int) := some (a0_0, a0_1)
set_option maxHeartbeats 8000000 in
set_option maxRecDepth 100000 in
theorem laws_toSum2.calls (a0_0 : Int) (a0_1 : Int) (r1 : Int) (r2 : Int) (w : World) (h : laws_toSum2.f a0_0 a0_1 = some (r1, r2)) :
  Calls Try.prog 12 #[.agg #[.int .i64 a0_0, .int .i64 a0_1]] w fun e w' => e = .returned (.agg #[.int .i64 r1, .int .i64 r2]) ∧ Below w.heap.size w w' := by
 have hu26 := Try.underlying26
 have hu35 := Try.underlying35
 have HB := mk_ (Below.refl w.heap.size w)
 have H : (some (a0_0, a0_1)) = some (r1, r2) := h
 clear h
 simp only [Option.some.injEq, Prod.mk.injEq] at H
 obtain ⟨rfl, rfl⟩ := H
 go_enter Try.func12, Try.ntmps12
 go_wp2_with (first | ((with_reducible refine gd_ 1 rfl ?_); refine box_event ?hg (N := 1) ?hd (cs := #[.int .i64 a0_0, .int .i64 a0_1]) (t := 26) ?hr ?_; (case hd => rfl); (case hg => rfl); (case hr => exact hr_); intro gb201 hg w2 hbox hb; have BK201 := mk_ (hbox); have GW201 := gb_ hg HB; replace HB := bp_ HB hb; have GE201 := GW201; clear hb hbox hg) | ((with_reducible refine gd_ 2 rfl ?_); refine box_event ?hg (N := 2) ?hd (cs := #[.int .i64 0, .int .i64 0]) (t := 35) ?hr ?_; (case hd => rfl); (case hg => rfl); (case hr => exact hr_); intro gb202 hg w3 hbox hb; have BK202 := mk_ (hbox); have GW202 := gb_ hg HB; replace HB := bp_ HB hb; have GE202 := GW202; have NB201_202 := nb_ hg BK201; replace BK201 := bl_ BK201 hb; have NB202_201 := ns_ NB201_202; clear hb hbox hg) | ((with_reducible refine gd_ 3 rfl ?_); refine box_event ?hg (N := 3) ?hd (cs := #[.int .i64 0, .int .i64 0]) (t := 35) ?hr ?_; (case hd => rfl); (case hg => rfl); (case hr => exact hr_); intro gb203 hg w4 hbox hb; have BK203 := mk_ (hbox); have GW203 := gb_ hg HB; replace HB := bp_ HB hb; have GE203 := GW203; have NB201_203 := nb_ hg BK201; replace BK201 := bl_ BK201 hb; have NB203_201 := ns_ NB201_203; have NB202_203 := nb_ hg BK202; replace BK202 := bl_ BK202 hb; have NB203_202 := ns_ NB202_203; clear hb hbox hg; have hnb5 := NB201_202.out; have hnc5 := NB202_201.out; have hnb6 := NB201_203.out; have hnc6 := NB203_201.out; have hcz7_0 := bc0_ BK201; have hcz7_1 := bc1_ BK201; have hfz7_0 := bf_ BK201 0; have hfz7_1 := bf_ BK201 1; have hnb8 := NB203_202.out; have hnc8 := NB202_203.out; have hcz9_0 := bc0_ BK203; have hcz9_1 := bc1_ BK203; have hfz9_0 := bf_ BK203 0; have hfz9_1 := bf_ BK203 1; have hcz10_0 := bc0_ BK202; have hcz10_1 := bc1_ BK202; have hfz10_0 := bf_ BK202 0; have hfz10_1 := bf_ BK202 1))
 refine bodyPost_ret (results_cell_row rfl _ _ gb202 35 #[.int .i64 a0_0, .int .i64 a0_1] (0, 0) _ rfl (by (with_reducible repeat (first | refine blk_drewN ?_ _ | refine blk_drew ?_ | refine blk_alloc ?_ _)); refine blk_put (cs := #[.int .i64 a0_0, .int .i64 0]) ?_ 1 _ rfl; (with_reducible repeat (first | refine blk_drewN ?_ _ | refine blk_drew ?_ | refine blk_alloc ?_ _)); refine blk_put (cs := #[.int .i64 0, .int .i64 0]) ?_ 0 _ rfl; (with_reducible repeat (first | refine blk_drewN ?_ _ | refine blk_drew ?_ | refine blk_alloc ?_ _)); refine blk_far ?_ NB202_203.out _; (with_reducible repeat (first | refine blk_drewN ?_ _ | refine blk_drew ?_ | refine blk_alloc ?_ _)); refine blk_far ?_ NB202_203.out _; (with_reducible repeat (first | refine blk_drewN ?_ _ | refine blk_drew ?_ | refine blk_alloc ?_ _)); exact BK202.out) Try.underlying35 rfl (by kernel_rfl)) rfl ?_
 exact ⟨re_, by repeat (first | (with_reducible first | exact HB.out | apply below_alloc | apply pw_below_drewN | apply below_drew1 | refine below_set ?_ GE202.out | refine below_set ?_ GE203.out) | exact HB.out)⟩

/-! ### laws_toFuelTank: function 36 -/
def laws_toFuelTank.f (a0_0 : Int) (a0_1 : Int) : Option (Int × Int) := some (a0_0, a0_1)
set_option maxHeartbeats 8000000 in
set_option maxRecDepth 100000 in
theorem laws_toFuelTank.calls (a0_0 : Int) (a0_1 : Int) (r1 : Int) (r2 : Int) (w : World) (h : laws_toFuelTank.f a0_0 a0_1 = some (r1, r2)) :
  Calls Try.prog 36 #[.agg #[.int .i64 a0_0, .int .i64 a0_1]] w fun e w' => e = .returned (.agg #[.int .i64 r1, .int .i64 r2]) ∧ Below w.heap.size w w' := by
 have hu68 := Try.underlying68
 have hu60 := Try.underlying60
 have HB := mk_ (Below.refl w.heap.size w)
 have H : (some (a0_0, a0_1)) = some (r1, r2) := h
 clear h
 simp only [Option.some.injEq, Prod.mk.injEq] at H
 obtain ⟨rfl, rfl⟩ := H
 go_enter Try.func36, Try.ntmps36
 go_wp2_with (first | ((with_reducible refine gd_ 1 rfl ?_); refine box_event ?hg (N := 1) ?hd (cs := #[.int .i64 a0_0, .int .i64 a0_1]) (t := 68) ?hr ?_; (case hd => rfl); (case hg => rfl); (case hr => exact hr_); intro gb204 hg w2 hbox hb; have BK204 := mk_ (hbox); have GW204 := gb_ hg HB; replace HB := bp_ HB hb; have GE204 := GW204; clear hb hbox hg) | ((with_reducible refine gd_ 2 rfl ?_); refine box_event ?hg (N := 2) ?hd (cs := #[.int .i64 0, .int .i64 0]) (t := 60) ?hr ?_; (case hd => rfl); (case hg => rfl); (case hr => exact hr_); intro gb205 hg w3 hbox hb; have BK205 := mk_ (hbox); have GW205 := gb_ hg HB; replace HB := bp_ HB hb; have GE205 := GW205; have NB204_205 := nb_ hg BK204; replace BK204 := bl_ BK204 hb; have NB205_204 := ns_ NB204_205; clear hb hbox hg) | ((with_reducible refine gd_ 3 rfl ?_); refine box_event ?hg (N := 3) ?hd (cs := #[.int .i64 0, .int .i64 0]) (t := 60) ?hr ?_; (case hd => rfl); (case hg => rfl); (case hr => exact hr_); intro gb206 hg w4 hbox hb; have BK206 := mk_ (hbox); have GW206 := gb_ hg HB; replace HB := bp_ HB hb; have GE206 := GW206; have NB204_206 := nb_ hg BK204; replace BK204 := bl_ BK204 hb; have NB206_204 := ns_ NB204_206; have NB205_206 := nb_ hg BK205; replace BK205 := bl_ BK205 hb; have NB206_205 := ns_ NB205_206; clear hb hbox hg; have hnb5 := NB204_205.out; have hnc5 := NB205_204.out; have hnb6 := NB204_206.out; have hnc6 := NB206_204.out; have hcz7_0 := bc0_ BK204; have hcz7_1 := bc1_ BK204; have hfz7_0 := bf_ BK204 0; have hfz7_1 := bf_ BK204 1; have hnb8 := NB206_205.out; have hnc8 := NB205_206.out; have hcz9_0 := bc0_ BK206; have hcz9_1 := bc1_ BK206; have hfz9_0 := bf_ BK206 0; have hfz9_1 := bf_ BK206 1; have hcz10_0 := bc0_ BK205; have hcz10_1 := bc1_ BK205; have hfz10_0 := bf_ BK205 0; have hfz10_1 := bf_ BK205 1))
 refine bodyPost_ret (results_cell_row rfl _ _ gb205 60 #[.int .i64 a0_0, .int .i64 a0_1] (0, 0) _ rfl (by (with_reducible repeat (first | refine blk_drewN ?_ _ | refine blk_drew ?_ | refine blk_alloc ?_ _)); refine blk_put (cs := #[.int .i64 a0_0, .int .i64 0]) ?_ 1 _ rfl; (with_reducible repeat (first | refine blk_drewN ?_ _ | refine blk_drew ?_ | refine blk_alloc ?_ _)); refine blk_put (cs := #[.int .i64 0, .int .i64 0]) ?_ 0 _ rfl; (with_reducible repeat (first | refine blk_drewN ?_ _ | refine blk_drew ?_ | refine blk_alloc ?_ _)); refine blk_far ?_ NB205_206.out _; (with_reducible repeat (first | refine blk_drewN ?_ _ | refine blk_drew ?_ | refine blk_alloc ?_ _)); refine blk_far ?_ NB205_206.out _; (with_reducible repeat (first | refine blk_drewN ?_ _ | refine blk_drew ?_ | refine blk_alloc ?_ _)); exact BK205.out) Try.underlying60 rfl (by kernel_rfl)) rfl ?_
 exact ⟨re_, by repeat (first | (with_reducible first | exact HB.out | apply below_alloc | apply pw_below_drewN | apply below_drew1 | refine below_set ?_ GE205.out | refine below_set ?_ GE206.out) | exact HB.out)⟩

end Go.Proofs.Yteedbciobdcmaaa.QFnExactLeaves
-- squeezed
