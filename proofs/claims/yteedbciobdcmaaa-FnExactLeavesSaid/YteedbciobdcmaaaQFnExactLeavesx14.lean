/- Lean functions that tell what the Go functions used by one law answer, and for each a proof that the Go code comes to just these answers; no condition. Printed by this session's own program over the kit's printer. -/
import Derived.Test.YteedbciobdcmaaaWSq
import Derived.Test.YteedbciobdcmaaaQFnExactLeavesx0
import Derived.Test.YteedbciobdcmaaaQFnExactLeavesx8
import Derived.Test.YteedbciobdcmaaaQFnExactLeavesx9
import Derived.Test.YteedbciobdcmaaaQFnExactLeavesx10
import Derived.Test.YteedbciobdcmaaaQFnExactLeavesx12
import Derived.Test.YteedbciobdcmaaaQFnExactLeavesx13
namespace Go.Proofs.Yteedbciobdcmaaa.QFnExactLeaves
open Go.RowKit Go.Proofs.YteedbciobdcmaaaW.PrintWords Go.Proofs.YteedbciobdcmaaaW.PrintLast Go.Proofs.YteedbciobdcmaaaW.PrintMore
attribute [local go_sem] max2_int min2_int max_two min_two max_three min_three max_four min_four   -- for this text's walks alone
attribute [local go_sem high] go_eql go_neq go_lss go_leq go_gtr go_geq go_store   -- for this text's walks alone
set_option linter.unusedVariables false
set_option linter.unusedSimpArgs false

/-! ### impl_Leaves: function 15 -/
mutual
def impl_Leaves.j0 : Nat → List (S60) → List (S62) → Bool → List Int → List Int → List Int → Int → Int → Option (Int)
 | 0, _, _, _, _, _, _, _, _ => none
 | k + 1, x2, x3, x28, x291000, x291001, x291002, x292000, x292001 => if x28 = true then (some (-2)) else ((impl_laden.f k x292000 x292001 x2).bind fun bt297 => ((impl_inside.f k x291000 x291001 x291002 bt297.1 bt297.2).bind fun t299 => (if t299 = true then ((impl_FuelTank_41.f x2).bind fun t300 => (impl_Leaves.l0 k x3 t300 x3 (x3.length : Int) 0 x291000 x291001 x291002 x292000 x292001)) else (some (-1)))))
def impl_Leaves.l0 : Nat → List (S62) → List (S60) → List (S62) → Int → Int → List Int → List Int → List Int → Int → Int → Option (Int)
 | 0, _, _, _, _, _, _, _, _, _, _ => none
 | k + 1, x3, x11, x37, x38, x39, x291000, x291001, x291002, x292000, x292001 => if x39 < x38 then (if 0 ≤ x39 then (if x39 < (x37.length : Int) then (if 0 ≤ ((rd_T62 x37 x39).f0) then (if ((rd_T62 x37 x39).f0) < (x11.length : Int) then ((some (x11.set (((rd_T62 x37 x39).f0) : Int).toNat (⟨wrap64 (((rd_T60 x11 ((rd_T62 x37 x39).f0)).f0) - ((rd_T62 x37 x39).f1)), (rd_T60 x11 ((rd_T62 x37 x39).f0)).f1⟩ : S60) : List (S60))).bind fun y306 => ((impl_laden.f k x292000 x292001 y306).bind fun bt307 => ((impl_inside.f k x291000 x291001 x291002 bt307.1 bt307.2).bind fun t309 => (if t309 = true then (impl_Leaves.l0 k x3 y306 x37 x38 (wrap64 (x39 + 1)) x291000 x291001 x291002 x292000 x292001) else (some x39))))) else (none)) else (none)) else (none)) else (none)) else (some (x3.length : Int))
end
def impl_Leaves.f (k : Nat) (l0_0 : List Int) (l0_1 : List Int) (l0_2 : List Int) (a1_0 : Int) (a1_1 : Int) (l2 : List (S60)) (l3 : List (S62)) : Option (Int) := (impl_Burnt.f k l2 l3).bind fun bt292 => (if bt292.2 = (-1) then ((impl_ladenOk.f k l0_0 l0_1 l0_2 a1_0 a1_1 l2).bind fun t296 => (impl_Leaves.j0 k l2 l3 (!t296) l0_0 l0_1 l0_2 a1_0 a1_1)) else (impl_Leaves.j0 k l2 l3 true l0_0 l0_1 l0_2 a1_0 a1_1))
theorem impl_Leaves.mono_l : ∀ k, (∀ y0 y1 y2 y3 y4 y5 y6 y7, LeO (impl_Leaves.j0 k y0 y1 y2 y3 y4 y5 y6 y7) (impl_Leaves.j0 (k + 1) y0 y1 y2 y3 y4 y5 y6 y7)) ∧ (∀ y0 y1 y2 y3 y4 y5 y6 y7 y8 y9, LeO (impl_Leaves.l0 k y0 y1 y2 y3 y4 y5 y6 y7 y8 y9) (impl_Leaves.l0 (k + 1) y0 y1 y2 y3 y4 y5 y6 y7 y8 y9))
 | 0 => ⟨fun _ _ _ _ _ _ _ _ r h => by simp [impl_Leaves.j0] at h, fun _ _ _ _ _ _ _ _ _ _ r h => by simp [impl_Leaves.l0] at h⟩
 | k + 1 => by
  obtain ⟨ih0, ih1⟩ := impl_Leaves.mono_l k
  refine ⟨?_, ?_⟩
  ·intro y0 y1 y2 y3 y4 y5 y6 y7
   unfold impl_Leaves.j0
   repeat' first
   | (with_reducible exact ih0 _ _ _ _ _ _ _ _)
   | (with_reducible exact ih1 _ _ _ _ _ _ _ _ _ _)
   | (with_reducible exact impl_Burnt.mono _ _ _)
   | (with_reducible exact impl_inside.mono _ _ _ _ _ _)
   | (with_reducible exact impl_laden.mono _ _ _ _)
   | (with_reducible exact impl_ladenOk.mono _ _ _ _ _ _ _)
   | (with_reducible exact LeO.refl _)
   | (with_reducible exact LeO.none _)
   | (with_reducible refine LeO.ite ?_ ?_)
   | (with_reducible refine LeO.bind ?_ (fun _ => ?_))
   | exact ih0 _ _ _ _ _ _ _ _
   | exact ih1 _ _ _ _ _ _ _ _ _ _
   | exact impl_Burnt.mono _ _ _
   | exact impl_inside.mono _ _ _ _ _ _
   | exact impl_laden.mono _ _ _ _
   | exact impl_ladenOk.mono _ _ _ _ _ _ _
   | exact LeO.none _
   | refine LeO.ite ?_ ?_
   | refine LeO.bind ?_ (fun _ => ?_)
  ·intro y0 y1 y2 y3 y4 y5 y6 y7 y8 y9
   unfold impl_Leaves.l0
   repeat' first
   | (with_reducible exact ih0 _ _ _ _ _ _ _ _)
   | (with_reducible exact ih1 _ _ _ _ _ _ _ _ _ _)
   | (with_reducible exact impl_Burnt.mono _ _ _)
   | (with_reducible exact impl_inside.mono _ _ _ _ _ _)
   | (with_reducible exact impl_laden.mono _ _ _ _)
   | (with_reducible exact impl_ladenOk.mono _ _ _ _ _ _ _)
   | (with_reducible exact LeO.refl _)
   | (with_reducible exact LeO.none _)
   | (with_reducible refine LeO.ite ?_ ?_)
   | (with_reducible refine LeO.bind ?_ (fun _ => ?_))
   | exact ih0 _ _ _ _ _ _ _ _
   | exact ih1 _ _ _ _ _ _ _ _ _ _
   | exact impl_Burnt.mono _ _ _
   | exact impl_inside.mono _ _ _ _ _ _
   | exact impl_laden.mono _ _ _ _
   | exact impl_ladenOk.mono _ _ _ _ _ _ _
   | exact LeO.none _
   | refine LeO.ite ?_ ?_
   | refine LeO.bind ?_ (fun _ => ?_)
theorem impl_Leaves.mono : ∀ a0 a1 a2 a3 a4 a5 a6 k, LeO (impl_Leaves.f k a0 a1 a2 a3 a4 a5 a6) (impl_Leaves.f (k + 1) a0 a1 a2 a3 a4 a5 a6) := by
 intro a0 a1 a2 a3 a4 a5 a6 k
 obtain ⟨ih0, ih1⟩ := impl_Leaves.mono_l k
 unfold impl_Leaves.f
 repeat' first
   | (with_reducible exact ih0 _ _ _ _ _ _ _ _)
   | (with_reducible exact ih1 _ _ _ _ _ _ _ _ _ _)
   | (with_reducible exact impl_Burnt.mono _ _ _)
   | (with_reducible exact impl_inside.mono _ _ _ _ _ _)
   | (with_reducible exact impl_laden.mono _ _ _ _)
   | (with_reducible exact impl_ladenOk.mono _ _ _ _ _ _ _)
   | (with_reducible exact LeO.refl _)
   | (with_reducible exact LeO.none _)
   | (with_reducible refine LeO.ite ?_ ?_)
   | (with_reducible refine LeO.bind ?_ (fun _ => ?_))
   | exact ih0 _ _ _ _ _ _ _ _
   | exact ih1 _ _ _ _ _ _ _ _ _ _
   | exact impl_Burnt.mono _ _ _
   | exact impl_inside.mono _ _ _ _ _ _
   | exact impl_laden.mono _ _ _ _
   | exact impl_ladenOk.mono _ _ _ _ _ _ _
   | exact LeO.none _
   | refine LeO.ite ?_ ?_
   | refine LeO.bind ?_ (fun _ => ?_)
def impl_Leaves.T10 : Bool × List (List Nat × List Nat) := (true, [([], []), ([], []), ([1], [1]), ([0, 2], [0, 2]), ([3], [3]), ([4], [4]), ([], []), ([6], [6]), ([5, 7], [5, 7]), ([0, 2, 0, 1, 2, 3, 4, 5, 6, 7, 8], [0, 2]), ([9, 0, 1, 2, 3, 4, 5, 6, 7, 8], [9]), ([10, 8, 0, 1, 2, 3, 4, 5, 6, 7, 8], [8, 10])])
def impl_Leaves.B10 : List Nat := [0, 0, 2, 7, 15, 31, 0, 64, 255, 511, 1023, 2047]
theorem impl_Leaves.tab10 : rtab .any (opsOf Try.f15 10) = impl_Leaves.T10 := by kernel_rfl
theorem impl_Leaves.bits10 : waitsOk impl_Leaves.T10.2 impl_Leaves.B10 = true := by kernel_rfl
set_option maxHeartbeats 8000000 in
set_option maxRecDepth 100000 in
theorem impl_Leaves.calls (k : Nat) (A0_0 : Option Addr) (c0_0 : Nat) (l0_0 : List Int) (A0_1 : Option Addr) (c0_1 : Nat) (l0_1 : List Int) (A0_2 : Option Addr) (c0_2 : Nat) (l0_2 : List Int) (a1_0 : Int) (a1_1 : Int) (A2 : Option Addr) (c2 : Nat) (l2 : List (S60)) (A3 : Option Addr) (c3 : Nat) (l3 : List (S62)) (r : Int) (w : World) (hr0_0 : Kd.C (Kd.int .i64) w A0_0 l0_0.length l0_0) (hc0_0 : l0_0.length ≤ c0_0) (hr0_1 : Kd.C (Kd.int .i64) w A0_1 l0_1.length l0_1) (hc0_1 : l0_1.length ≤ c0_1) (hr0_2 : Kd.C (Kd.int .i64) w A0_2 l0_2.length l0_2) (hc0_2 : l0_2.length ≤ c0_2) (hr2 : Kd.C k60 w A2 l2.length l2) (hc2 : l2.length ≤ c2) (hr3 : Kd.C k62 w A3 l3.length l3) (hc3 : l3.length ≤ c3) (h : impl_Leaves.f k l0_0 l0_1 l0_2 a1_0 a1_1 l2 l3 = some r) :
  Calls Try.prog 15 #[.agg #[.slice A0_0 l0_0.length c0_0, .slice A0_1 l0_1.length c0_1, .slice A0_2 l0_2.length c0_2], .agg #[.int .i64 a1_0, .int .i64 a1_1], .slice A2 l2.length c2, .slice A3 l3.length c3] w fun e w' => e = .returned (.int .i64 r) ∧ Below w.heap.size w w' := by
 have hu33 := Try.underlying33
 have hu35 := Try.underlying35
 have hu62 := Try.underlying62
 have HR0_0 := mk_ hr0_0; have HC0_0 := mk_ hc0_0; clear hr0_0 hc0_0; have HR0_1 := mk_ hr0_1; have HC0_1 := mk_ hc0_1; clear hr0_1 hc0_1; have HR0_2 := mk_ hr0_2; have HC0_2 := mk_ hc0_2; clear hr0_2 hc0_2; have HR2 := mk_ hr2; have HC2 := mk_ hc2; clear hr2 hc2; have HR3 := mk_ hr3; have HC3 := mk_ hc3; clear hr3 hc3; have HB := mk_ (Below.refl w.heap.size w)
 have H : ((impl_Burnt.f k l2 l3).bind fun bt292 => (if bt292.2 = (-1) then ((impl_ladenOk.f k l0_0 l0_1 l0_2 a1_0 a1_1 l2).bind fun t296 => (impl_Leaves.j0 k l2 l3 (!t296) l0_0 l0_1 l0_2 a1_0 a1_1)) else (impl_Leaves.j0 k l2 l3 true l0_0 l0_1 l0_2 a1_0 a1_1))) = some r := h
 clear h; replace H := Option.bind_eq_some_iff.mp H; obtain ⟨⟨t292, t293⟩, A50, H⟩ := H; (try dsimp only at H); have A5 := mk_ A50; clear A50; have HC6 := mk_ H; clear H
 go_enter Try.func15, Try.ntmps15
 go_upto_region 2 with (first | ((with_reducible refine gd_ 4 rfl ?_); refine box_event ?hg (N := 4) ?hd (cs := #[.slice A0_0 l0_0.length c0_0, .slice A0_1 l0_1.length c0_1, .slice A0_2 l0_2.length c0_2]) (t := 33) ?hr ?_; (case hd => rfl); (case hg => rfl); (case hr => exact hr_); intro gb290 hg w7 hbox hb; have BK290 := mk_ (hbox); have GW290 := gb_ hg HB; replace HB := bp_ HB hb; have GE290 := GW290; clear hb hbox hg) | ((with_reducible refine gd_ 5 rfl ?_); refine box_event ?hg (N := 5) ?hd (cs := #[.int .i64 a1_0, .int .i64 a1_1]) (t := 35) ?hr ?_; (case hd => rfl); (case hg => rfl); (case hr => exact hr_); intro gb291 hg w8 hbox hb; have BK291 := mk_ (hbox); have GW291 := gb_ hg HB; replace HB := bp_ HB hb; have GE291 := GW291; have NB290_291 := nb_ hg BK290; replace BK290 := bl_ BK290 hb; have NB291_290 := ns_ NB290_291; clear hb hbox hg) | ((with_reducible refine gc_ 26 rfl ?_); refine gl_ (some 17) rfl Try.func26 #[.slice A2 l2.length c2, .slice A3 l3.length c3] ?_; (with_reducible refine (impl_Burnt.calls k _ _ l2 _ _ l3 t292 t293 _ ?side1 ?side2 ?side3 ?side4 A5.out).mono ?_); (case side1 => exact cw_ (Kd.C_below HR2.out HB.out)); (case side2 => exact HC2.out); (case side3 => exact cw_ (Kd.C_below HR3.out HB.out)); (case side4 => exact HC3.out); rintro e w9 ⟨v294, rfl, ho0, hb⟩; refine ⟨_, rfl, ?_⟩; have HO295 := mk_ (Kd.R_lower ho0 (below_size (by exact HB.out))); replace BK290 := bl_ BK290 hb; replace BK291 := bl_ BK291 hb; replace HB := bp_ HB hb; (try clear hb); (try clear hb2); (try clear hk); (try clear hi); (try clear ho0)))
 (try simp only [Act.put, List.setIfInBounds_toArray, List.set_cons_zero, List.set_cons_succ])
 go_cut [28] (fun v28 wc => ∃ (kq : Nat) (x28_5 : Bool), v28 = .bool x28_5 ∧ Aside0 (impl_Leaves.j0 kq l2 l3 x28_5 l0_0 l0_1 l0_2 a1_0 a1_1 = some r) ∧ Aside0 (kq ≤ k) ∧ Aside0 (wc.heap[gb290]? = some (.cells #[(.slice A0_0 l0_0.length c0_0), (.slice A0_1 l0_1.length c0_1), (.slice A0_2 l0_2.length c0_2)] 33 (0, 0))) ∧ Aside0 (wc.heap[gb291]? = some (.cells #[.int .i64 a1_0, .int .i64 a1_1] 35 (0, 0))) ∧ Aside0 (Below w.heap.size w wc))
 case first =>
  have H := HC6.out; clear HC6; by_cases c10 : t293 = (-1)
  ·rw [if_pos c10] at H; have c10b0 : (t293 == (-1)) = true := beq_iff_eq.mpr c10; have c10b1 : (t293 != (-1)) = false := bne_eq_false_iff_eq.mpr c10; clear c10
   (first | rw [c10b0] | (simp only [i64_w, i32_w]; rw [c10b0]) | skip)
   replace H := Option.bind_eq_some_iff.mp H; obtain ⟨t296, A110, H⟩ := H
   (try dsimp only at H); have A11 := mk_ A110; clear A110
   have H' := mk_ H
   clear H; have hnb12 := NB290_291.out; have hnc12 := NB291_290.out; have hcz13_0 := bc0_ BK290; have hcz13_1 := bc1_ BK290; have hcz13_2 := bc2_ BK290; have hfz13_0 := bf_ BK290 0; have hfz13_1 := bf_ BK290 1; have hfz13_2 := bf_ BK290 2; have hcz14_0 := bc0_ BK291; have hcz14_1 := bc1_ BK291; have hfz14_0 := bf_ BK291 0; have hfz14_1 := bf_ BK291 1
   go_wp2_with (first | (go_at_call 38; (with_reducible refine (impl_ladenOk.calls k _ _ l0_0 _ _ l0_1 _ _ l0_2 a1_0 a1_1 _ _ l2 t296 _ ?side1 ?side2 ?side3 ?side4 ?side5 ?side6 ?side7 ?side8 A11.out).mono ?_); (case side1 => exact cw_ (Kd.C_below HR0_0.out HB.out)); (case side2 => exact HC0_0.out); (case side3 => exact cw_ (Kd.C_below HR0_1.out HB.out)); (case side4 => exact HC0_1.out); (case side5 => exact cw_ (Kd.C_below HR0_2.out HB.out)); (case side6 => exact HC0_2.out); (case side7 => exact cw_ (Kd.C_below HR2.out HB.out)); (case side8 => exact HC2.out); rintro e w15 ⟨rfl, hb⟩; replace HO295 := rb_ HO295 hb; replace BK290 := bl_ BK290 hb; replace BK291 := bl_ BK291 hb; replace HB := bp_ HB hb; (try clear hb); (try clear hb2); (try clear hk); (try clear hi)))
   go_meet
   case rel => exact ⟨_, (!t296), rf_, H', ⟨by first | omega | exact Nat.le_refl _⟩, bw_ BK290, bw_ BK291, ⟨hw_ HB⟩⟩
  ·rw [if_neg c10] at H; have c10b0 : (t293 == (-1)) = false := beq_eq_false_iff_ne.mpr c10; have c10b1 : (t293 != (-1)) = true := bne_iff_ne.mpr c10
   (first | rw [c10b0] | (simp only [i64_w, i32_w]; rw [c10b0]) | skip)
   have H' := mk_ H
   clear H; go_wp2; go_meet
   case rel => exact ⟨_, (true), rf_, H', ⟨by first | omega | exact Nat.le_refl _⟩, bw_ BK290, bw_ BK291, ⟨hw_ HB⟩⟩
 case rest =>
  clear HC6; (try clear c2); (try clear c3)
  obtain ⟨kq, x28_5, rfl, HA, HJ5, BK290, BK291, HB⟩ := hcut
  cases kq with
  | zero => exact absurd HA.out (by simp [impl_Leaves.j0])
  | succ kj5 =>
   have H := HA.out; clear HA
   simp only [impl_Leaves.j0] at H
   by_cases c16 : x28_5 = true
   ·subst c16; rw [if_pos rfl] at H
    obtain rfl := Option.some.inj H; go_wp2
    go_ret
    exact ⟨re_, hw_ HB⟩
   ·replace c16 := Bool.eq_false_iff.mpr c16; subst c16; rw [if_neg (show ¬ (false = true) by decide)] at H; replace H := Option.bind_eq_some_iff.mp H; obtain ⟨⟨t297, t298⟩, A170, H⟩ := H; (try dsimp only at H); have A17 := mk_ A170; clear A170; replace H := Option.bind_eq_some_iff.mp H; obtain ⟨t299, A180, H⟩ := H; (try dsimp only at H); have A18 := mk_ A180; clear A180; by_cases c19 : t299 = true
    ·subst c19; rw [if_pos rfl] at H
     replace H := Option.bind_eq_some_iff.mp H; obtain ⟨t300, A200, H⟩ := H
     (try dsimp only at H); have A20 := mk_ A200; clear A200
     have H' := mk_ H
     clear H
     try go_wp2
     replace BK290 := dB_ BK290; replace BK291 := dB_ BK291; replace HB := dH_ HB
     refine start_ (n := 6) (S := fun w' => w'.cell? ⟨gb290, 0, none⟩ = some (.slice A0_0 l0_0.length c0_0) ∧ w'.cell? ⟨gb290, 1, none⟩ = some (.slice A0_1 l0_1.length c0_1) ∧ w'.cell? ⟨gb290, 2, none⟩ = some (.slice A0_2 l0_2.length c0_2) ∧ w'.cell? ⟨gb291, 0, none⟩ = some (.int .i64 a1_0) ∧ w'.cell? ⟨gb291, 1, none⟩ = some (.int .i64 a1_1)) (ds := []) (bs_ 6 0) (by kernel_rfl) rfl (by kernel_rfl) ⟨bc0_ BK290, bc1_ BK290, bc2_ BK290, bc0_ BK291, bc1_ BK291⟩ (fun hHeld => ?_)
     generalize wc.drew = w21 at BK290 BK291 HB hHeld ⊢
     refine pu0_ 2 31 (bs_ 6 4) ?_; refine tk0_ 0 29 (bs_ 6 5) hHeld ?_; refine tk0_ 1 30 (bs_ 6 7) hHeld ?_
     refine one_ (i := 3) (N := some 32) (bs_ 6 15) rfl rfl (by kernel_rfl) (by decide) (fun K hK => ?_)
     refine gs_ Try.func40 #[.agg #[.int .i64 a1_0, .int .i64 a1_1], .slice A2 l2.length c2] ?_
     with_reducible refine (impl_laden.calls kj5 a1_0 a1_1 _ _ l2 t297 t298 _ ?side1 ?side2 A17.out).mono ?_
     (case side1 => exact cw_ (Kd.C_below HR2.out HB.out))
     (case side2 => exact HC2.out)
     rintro e w22 ⟨rfl, hb⟩
     refine ⟨_, rfl, ?_⟩
     replace BK290 := bk_ BK290 hb; replace BK291 := bk_ BK291 hb; replace HB := hk_ HB hb
     (try clear hb); (try clear hb2); (try clear hk); (try clear hi)
     refine hK.out _ _ ⟨bc0_ BK290, bc1_ BK290, bc2_ BK290, bc0_ BK291, bc1_ BK291⟩ (fun hHeld => ?_)
     clear hK K; refine nm_ ?_
     refine one_ (i := 4) (N := some 33) (bs_ 6 31) rfl rfl (by kernel_rfl) (by decide) (fun K hK => ?_)
     refine gs_ Try.func39 #[.agg #[.slice A0_0 l0_0.length c0_0, .slice A0_1 l0_1.length c0_1, .slice A0_2 l0_2.length c0_2], .agg #[.int .i64 t297, .int .i64 t298]] ?_
     with_reducible refine (impl_inside.calls kj5 _ _ l0_0 _ _ l0_1 _ _ l0_2 t297 t298 true _ ?side1 ?side2 ?side3 ?side4 ?side5 ?side6 A18.out).mono ?_
     (case side1 => exact cw_ (Kd.C_below HR0_0.out HB.out))
     (case side2 => exact HC0_0.out)
     (case side3 => exact cw_ (Kd.C_below HR0_1.out HB.out))
     (case side4 => exact HC0_1.out)
     (case side5 => exact cw_ (Kd.C_below HR0_2.out HB.out))
     (case side6 => exact HC0_2.out)
     rintro e w23 ⟨rfl, hb⟩
     refine ⟨_, rfl, ?_⟩
     replace BK290 := bk_ BK290 hb; replace BK291 := bk_ BK291 hb; replace HB := hk_ HB hb
     (try clear hb); (try clear hb2); (try clear hk); (try clear hi)
     refine hK.out _ _ ⟨bc0_ BK290, bc1_ BK290, bc2_ BK290, bc0_ BK291, bc1_ BK291⟩ (fun hHeld => ?_)
     clear hK K; refine nm_ ?_; refine pu0_ 5 34 (bs_ 6 63) ?_
     refine done_ (by kernel_rfl) ?_
     try go_wp2_with (first | ((with_reducible refine gc_ 41 rfl ?_); refine gl_ (some 36) rfl Try.func41 #[.slice A2 l2.length c2] ?_; (with_reducible refine (impl_FuelTank_41.calls _ _ l2 t300 _ ?side1 ?side2 A20.out).mono ?_); (case side1 => exact cw_ (Kd.C_below HR2.out HB.out)); (case side2 => exact HC2.out); rintro e w24 ⟨v301, rfl, ho0, hb⟩; refine ⟨_, rfl, ?_⟩; have HO302 := mk_ (Kd.R_lower ho0 (below_size (by exact HB.out))); replace BK290 := bl_ BK290 hb; replace BK291 := bl_ BK291 hb; replace HB := bp_ HB hb; (try clear hb); (try clear hb2); (try clear hk); (try clear hi); (try clear ho0)))
     go_loopg [39] kj5 (fun kq v39 w' => ∃ (x11_2 : List (S60)) (x39_2 : Int), v39 = .int .i64 x39_2 ∧ Aside0 (impl_Leaves.l0 kq l3 x11_2 l3 (l3.length : Int) x39_2 l0_0 l0_1 l0_2 a1_0 a1_1 = some r) ∧ Aside0 (kq ≤ kj5) ∧ Aside0 (Kd.R k60 60 w' w.heap.size (fun _ => True) v301 x11_2) ∧ Aside0 (w'.heap[gb290]? = some (.cells #[(.slice A0_0 l0_0.length c0_0), (.slice A0_1 l0_1.length c0_1), (.slice A0_2 l0_2.length c0_2)] 33 (0, 0))) ∧ Aside0 (w'.heap[gb291]? = some (.cells #[.int .i64 a1_0, .int .i64 a1_1] 35 (0, 0))) ∧ Aside0 (Below w.heap.size w w'))
     case atStart => exact ⟨(t300), (0), rf_, H', ⟨Nat.le_refl _⟩, kw_ HO302, bw_ BK290, bw_ BK291, ⟨hw_ HB⟩⟩
     case round =>
      clear H'; (try clear c2); (try clear c3); (try clear c16); (try clear c19)
      obtain ⟨x11_2, x39_2, rfl, HA, HK2, HO_11, BK290, BK291, HB⟩ := hrel
      cases gk with
      | zero => exact absurd HA.out (by simp [impl_Leaves.l0])
      | succ k2 =>
       have H := HA.out; clear HA
       simp only [impl_Leaves.l0] at H
       by_cases c25 : x39_2 < (l3.length : Int)
       ·rw [if_pos c25] at H; have c25b0 : decide (x39_2 < (l3.length : Int)) = true := decide_eq_true c25; clear c25; by_cases c26 : 0 ≤ x39_2
        ·rw [if_pos c26] at H; have c26b0 : decide (0 ≤ x39_2) = true := decide_eq_true c26; clear c26; by_cases c27 : x39_2 < (l3.length : Int)
         ·rw [if_pos c27] at H; have c27b0 : decide (x39_2 < (l3.length : Int)) = true := decide_eq_true c27; clear c27; by_cases c28 : 0 ≤ ((rd_T62 l3 x39_2).f0)
          ·rw [if_pos c28] at H; have c28b0 : decide (0 ≤ ((rd_T62 l3 x39_2).f0)) = true := decide_eq_true c28; clear c28; by_cases c29 : ((rd_T62 l3 x39_2).f0) < (x11_2.length : Int)
           ·rw [if_pos c29] at H; have c29b0 : decide (((rd_T62 l3 x39_2).f0) < (x11_2.length : Int)) = true := decide_eq_true c29; clear c29
            obtain ⟨y306, hy306⟩ : ∃ y_ : List (S60), y_ = (x11_2.set (((rd_T62 l3 x39_2).f0) : Int).toNat (⟨wrap64 (((rd_T60 x11_2 ((rd_T62 l3 x39_2).f0)).f0) - ((rd_T62 l3 x39_2).f1)), (rd_T60 x11_2 ((rd_T62 l3 x39_2).f0)).f1⟩ : S60)) := ⟨_, rfl⟩
            replace H : ((impl_laden.f k2 a1_0 a1_1 y306).bind fun bt307 => ((impl_inside.f k2 l0_0 l0_1 l0_2 bt307.1 bt307.2).bind fun t309 => (if t309 = true then (impl_Leaves.l0 k2 l3 y306 l3 (l3.length : Int) (wrap64 (x39_2 + 1)) l0_0 l0_1 l0_2 a1_0 a1_1) else (some x39_2)))) = some r := by first | (rw [hy306]; with_reducible exact H) | (have H2_ := (Option.bind_some _ _).symm.trans H; rw [hy306]; with_reducible exact H2_) | (have H2_ := (Option.bind_some _ _).symm.trans H; with_reducible exact H2_) | with_reducible exact H | (rw [hy306]; exact H) | exact H
            have Ny306 := mk_ hy306; clear hy306; replace H := Option.bind_eq_some_iff.mp H; obtain ⟨⟨t307, t308⟩, A310, H⟩ := H; (try dsimp only at H); have A31 := mk_ A310; clear A310; replace H := Option.bind_eq_some_iff.mp H; obtain ⟨t309, A320, H⟩ := H; (try dsimp only at H); have A32 := mk_ A320; clear A320; by_cases c33 : t309 = true
            ·subst c33; rw [if_pos rfl] at H
             have H' := mk_ H
             clear H
             have p303 : 0 ≤ (x39_2 : Int) := od_
             have q303 : x39_2 < (l3.length : Int) := od_
             obtain ⟨ad303, e303, hx303_0, hx303_1⟩ := at_T62 HR3.out x39_2 p303 q303; cases e303
             replace hx303_0 := (HB.out.cell (World.block_lt_of_cell? w _ hx303_0)).trans hx303_0
             replace hx303_1 := (HB.out.cell (World.block_lt_of_cell? w _ hx303_1)).trans hx303_1
             replace p303 := eq_true p303; replace q303 := eq_true q303
             try go_wp2_with (first | ((with_reducible refine gd_ 13 rfl ?_); refine box_event ?hg (N := 13) ?hd (cs := #[.int .i64 0, .int .i64 0]) (t := 62) ?hr ?_; (case hd => rfl); (case hg => rfl); (case hr => exact hr_); intro gb304 hg w34 hbox hb; replace HO_11 := rb_ HO_11 hb; have BK304 := mk_ (hbox); have GW304 := gb_ hg HB; replace HB := bp_ HB hb; have GE304 := GW304; have NB290_304 := nb_ hg BK290; replace BK290 := bl_ BK290 hb; have NB304_290 := ns_ NB290_304; have NB291_304 := nb_ hg BK291; replace BK291 := bl_ BK291 hb; have NB304_291 := ns_ NB291_304; clear hb hbox hg; have hnb35 := NB304_290.out; have hnc35 := NB290_304.out; have hnb36 := NB304_291.out; have hnc36 := NB291_304.out; have hcz37_0 := bc0_ BK304; have hcz37_1 := bc1_ BK304; have hfz37_0 := bf_ BK304 0; have hfz37_1 := bf_ BK304 1))
             have n0_ : Aside0 (Kd.R k60 60 ((w34.setCell ⟨gb304, 0, none⟩ (.int .i64 ((rd_T62 l3 x39_2).f0))).setCell ⟨gb304, 1, none⟩ (.int .i64 ((rd_T62 l3 x39_2).f1))) w.heap.size (fun _ => True) v301 x11_2) := ⟨by (with_reducible repeat (first | apply Kd.R_alloc | apply Kd.R_drewN | apply Kd.R_drew)); exact Kd.R_mono (Kd.R_far (p := ⟨gb304, 1, none⟩) (Kd.R_far (p := ⟨gb304, 0, none⟩) (Kd.R_types HO_11.out BK304.out (by decide)) (fun _ hk => hk.2) (.int .i64 ((rd_T62 l3 x39_2).f0))) (fun _ hk => hk.2) (.int .i64 ((rd_T62 l3 x39_2).f1))) (fun _ hk => trivial)⟩
             have n1_ : Aside0 (((w34.setCell ⟨gb304, 0, none⟩ (.int .i64 ((rd_T62 l3 x39_2).f0))).setCell ⟨gb304, 1, none⟩ (.int .i64 ((rd_T62 l3 x39_2).f1))).heap[gb290]? = some (.cells #[.slice A0_0 l0_0.length c0_0, .slice A0_1 l0_1.length c0_1, .slice A0_2 l0_2.length c0_2] 33 (0, 0))) := ⟨by (with_reducible repeat (first | refine blk_drewN ?_ _ | refine blk_drew ?_ | refine blk_alloc ?_ _)); refine blk_far ?_ NB290_304.out _; (with_reducible repeat (first | refine blk_drewN ?_ _ | refine blk_drew ?_ | refine blk_alloc ?_ _)); refine blk_far ?_ NB290_304.out _; (with_reducible repeat (first | refine blk_drewN ?_ _ | refine blk_drew ?_ | refine blk_alloc ?_ _)); exact BK290.out⟩
             have n2_ : Aside0 (((w34.setCell ⟨gb304, 0, none⟩ (.int .i64 ((rd_T62 l3 x39_2).f0))).setCell ⟨gb304, 1, none⟩ (.int .i64 ((rd_T62 l3 x39_2).f1))).heap[gb291]? = some (.cells #[.int .i64 a1_0, .int .i64 a1_1] 35 (0, 0))) := ⟨by (with_reducible repeat (first | refine blk_drewN ?_ _ | refine blk_drew ?_ | refine blk_alloc ?_ _)); refine blk_far ?_ NB291_304.out _; (with_reducible repeat (first | refine blk_drewN ?_ _ | refine blk_drew ?_ | refine blk_alloc ?_ _)); refine blk_far ?_ NB291_304.out _; (with_reducible repeat (first | refine blk_drewN ?_ _ | refine blk_drew ?_ | refine blk_alloc ?_ _)); exact BK291.out⟩
             have n3_ : Aside0 (((w34.setCell ⟨gb304, 0, none⟩ (.int .i64 ((rd_T62 l3 x39_2).f0))).setCell ⟨gb304, 1, none⟩ (.int .i64 ((rd_T62 l3 x39_2).f1))).heap[gb304]? = some (.cells #[.int .i64 ((rd_T62 l3 x39_2).f0), .int .i64 ((rd_T62 l3 x39_2).f1)] 62 (0, 0))) := ⟨by (with_reducible repeat (first | refine blk_drewN ?_ _ | refine blk_drew ?_ | refine blk_alloc ?_ _)); refine blk_put (cs := #[.int .i64 ((rd_T62 l3 x39_2).f0), .int .i64 0]) ?_ 1 _ rfl; (with_reducible repeat (first | refine blk_drewN ?_ _ | refine blk_drew ?_ | refine blk_alloc ?_ _)); refine blk_put (cs := #[.int .i64 0, .int .i64 0]) ?_ 0 _ rfl; (with_reducible repeat (first | refine blk_drewN ?_ _ | refine blk_drew ?_ | refine blk_alloc ?_ _)); exact BK304.out⟩
             have n4_ : Aside0 (Below w.heap.size w ((w34.setCell ⟨gb304, 0, none⟩ (.int .i64 ((rd_T62 l3 x39_2).f0))).setCell ⟨gb304, 1, none⟩ (.int .i64 ((rd_T62 l3 x39_2).f1)))) := ⟨by repeat (first | (with_reducible first | exact HB.out | apply below_alloc | apply pw_below_drewN | apply below_drew1 | refine below_set ?_ GE304.out) | exact HB.out)⟩
             (try clear HO_11); (try clear BK290); (try clear BK291); (try clear BK304); (try clear HB)
             generalize ((w34.setCell ⟨gb304, 0, none⟩ (.int .i64 ((rd_T62 l3 x39_2).f0))).setCell ⟨gb304, 1, none⟩ (.int .i64 ((rd_T62 l3 x39_2).f1))) = w38 at n0_ n1_ n2_ n3_ n4_ ⊢
             have HO_11 := n0_
             have BK290 := n1_
             have BK291 := n2_
             have BK304 := n3_
             have HB := n4_
             clear n0_ n1_ n2_ n3_ n4_
             replace HO_11 := dR_ HO_11; replace BK290 := dB_ BK290; replace BK291 := dB_ BK291; replace BK304 := dB_ BK304; replace HB := dH_ HB
             obtain ⟨Ao40, co40, eo40⟩ := Kd.R_slice HO_11.out
             (first | subst eo40 | (injection eo40 with f1_ f2_ f3_; have f4_ := f1_.symm; have f5_ := f3_.symm; clear f1_ f2_ f3_; subst f4_; subst f5_))
             have p305 : 0 ≤ (((rd_T62 l3 x39_2).f0) : Int) := od_
             have q305 : ((rd_T62 l3 x39_2).f0) < (x11_2.length : Int) := od_
             obtain ⟨ad305, e305, hx305_0, hx305_1⟩ := at_T60 (rr_ HO_11) ((rd_T62 l3 x39_2).f0) p305 q305; cases e305; replace p305 := eq_true p305; replace q305 := eq_true q305
             have p30 : 0 ≤ (((rd_T62 l3 x39_2).f0) : Int) := od_
             have q30 : (((rd_T62 l3 x39_2).f0) : Int) < ((x11_2.length : Int) : Int) := od_
             obtain ⟨go30, co30, eo30, gb30, gl30, cl30, HG30⟩ := Kd.R_form HO_11.out (by omega)
             (first | cases eo30 | (injection eo30 with ea_ en_ ec_; (first | subst ea_ | (injection ea_ with ea_; subst ea_)); subst ec_; clear en_))
             have GB30 := mk_ gb30; have GG30 := mk_ HG30; clear gb30 gl30 HG30
             (first | simp only [add_plain] at hx305_0 | skip)
             (first | simp only [add_plain] at hx305_1 | skip)
             obtain ⟨ce30, hcl30, hM30, hcc30, hfr30⟩ := Kd.R_elem HO_11.out z60 (((rd_T62 l3 x39_2).f0) : Int) p30 q30
             obtain rfl := k60_openM hM30
             have hx30_0 : World.cell? _ ⟨go30, (((rd_T62 l3 x39_2).f0) : Int).toNat * 2, none⟩ = some (.int .i64 ((rd_T60 x11_2 ((rd_T62 l3 x39_2).f0)).f0)) := hcc30 0 _ rfl
             have hx30_1 : World.cell? _ ⟨go30, (((rd_T62 l3 x39_2).f0) : Int).toNat * 2 + 1, none⟩ = some (.int .i64 ((rd_T60 x11_2 ((rd_T62 l3 x39_2).f0)).f1)) := hcc30 1 _ rfl
             have hf30_0 : World.frozen? _ ⟨go30, (((rd_T62 l3 x39_2).f0) : Int).toNat * 2, none⟩ = false := hfr30 0
             have hf30_1 : World.frozen? _ ⟨go30, (((rd_T62 l3 x39_2).f0) : Int).toNat * 2 + 1, none⟩ = false := hfr30 1
             clear hcl30 hcc30 hfr30; (try clear hM30); replace p30 := eq_true p30; replace q30 := eq_true q30
             obtain ⟨ce41, hcl41, hM41, hcc41, hfr41⟩ := Kd.R_elem HO_11.out z60 (((rd_T62 l3 x39_2).f0) : Int) (od_) (by have h_ : (((rd_T62 l3 x39_2).f0) : Int) < ((x11_2.length : Int) : Int) := od_; first | exact h_ | (have e_ := (Kd.R_reads' HO_11.out).1; omega) | simpa using h_)
             obtain rfl := k60_openM hM41
             have HP41 := (Kd.R_seg HO_11.out (((rd_T62 l3 x39_2).f0) : Int) (od_) (by have h_ : (((rd_T62 l3 x39_2).f0) : Int) < ((x11_2.length : Int) : Int) := od_; first | exact h_ | (have e_ := (Kd.R_reads' HO_11.out).1; omega) | simpa using h_) (seg := [.int .i64 (wrap64 (((rd_T60 x11_2 ((rd_T62 l3 x39_2).f0)).f0) - ((rd_T62 l3 x39_2).f1)))]) (j := 0) hcl41 hcc41 (show 1 ≤ 2 from by decide) (x' := (⟨wrap64 (((rd_T60 x11_2 ((rd_T62 l3 x39_2).f0)).f0) - ((rd_T62 l3 x39_2).f1)), (rd_T60 x11_2 ((rd_T62 l3 x39_2).f0)).f1⟩ : S60)) (k60_mkM _ _ _ (⟨wrap64 (((rd_T60 x11_2 ((rd_T62 l3 x39_2).f0)).f0) - ((rd_T62 l3 x39_2).f1)), (rd_T60 x11_2 ((rd_T62 l3 x39_2).f0)).f1⟩ : S60) ) (fun _ hk => hk)).1
             rw [← Ny306.out] at HP41
             have HQ41 := mk_ HP41; clear hcl41 hcc41 hfr41 HP41; (try clear hM41)
             refine start_ (n := 12) (S := fun w' => w'.cell? ⟨gb304, 0, none⟩ = some (.int .i64 ((rd_T62 l3 x39_2).f0)) ∧ w'.cell? ⟨gb304, 1, none⟩ = some (.int .i64 ((rd_T62 l3 x39_2).f1)) ∧ w'.cell? ⟨go30, ((((rd_T62 l3 x39_2).f0)).toNat * 2), none⟩ = some (.int .i64 ((rd_T60 x11_2 ((rd_T62 l3 x39_2).f0)).f0)) ∧ w'.cell? ⟨go30, ((((rd_T62 l3 x39_2).f0)).toNat * 2) + 1, none⟩ = some (.int .i64 ((rd_T60 x11_2 ((rd_T62 l3 x39_2).f0)).f1))) (ds := [11]) (bs_ 12 0) (by kernel_rfl) rfl (by kernel_rfl) ⟨bc0_ BK304, bc1_ BK304, hx305_0, hx305_1⟩ (fun hHeld => ?_); refine with_tabW impl_Leaves.tab10 impl_Leaves.bits10 (fun HT_ HW_ => ?_)
             generalize w38.drew = w39 at HO_11 BK290 BK291 BK304 HB GG30 HQ41 hf30_0 hf30_1 hx305_0 hx305_1 hx30_0 hx30_1 hHeld ⊢
             refine pu_ HT_ 0 44 (bs_ 12 1) ?_; refine pu_ HT_ 1 45 (bs_ 12 3) ?_; refine pu_ HT_ 6 50 (bs_ 12 67) ?_; refine tk_ HT_ HW_ 2 46 (bs_ 12 71) hHeld ?_; refine pu_ HT_ 3 47 (bs_ 12 79) ?_; refine pu_ HT_ 4 48 (bs_ 12 95) ?_; refine tk_ HT_ HW_ 5 49 (bs_ 12 127) hHeld ?_; refine tk_ HT_ HW_ 7 51 (bs_ 12 255) hHeld ?_; refine pu_ HT_ 8 52 (bs_ 12 511) ?_; refine pu_ HT_ 9 53 (bs_ 12 1023) ?_; refine pu_ HT_ 10 54 (bs_ 12 2047) ?_
             refine last_ (i := 11) (N := none) (bs_ 12 4095) rfl rfl (one_of HT_.out (by kernel_rfl)) (by decide) (fun K hK => ?_)
             refine skip_ (w1 := ?_) (by rfl) rfl ?_ ?_
             rotate_left
             ·go_simp
              rfl
             refine hK.out _ _ ?_
             clear hK K
             refine done_ (done_of HT_.out (by kernel_rfl)) ?_
             try go_wp2
             have n0_ : Aside0 (Kd.R k60 60 (w39.setCell ⟨go30, (((rd_T62 l3 x39_2).f0) : Int).toNat * 2, none⟩ (.int .i64 (wrap64 (((rd_T60 x11_2 ((rd_T62 l3 x39_2).f0)).f0) - ((rd_T62 l3 x39_2).f1))))) w.heap.size (fun _ => True) (.slice (some ⟨go30, 0, none⟩) x11_2.length co40) y306) := kw_ HQ41
             have n1_ : Aside0 ((w39.setCell ⟨go30, (((rd_T62 l3 x39_2).f0) : Int).toNat * 2, none⟩ (.int .i64 (wrap64 (((rd_T60 x11_2 ((rd_T62 l3 x39_2).f0)).f0) - ((rd_T62 l3 x39_2).f1))))).heap[gb290]? = some (.cells #[.slice A0_0 l0_0.length c0_0, .slice A0_1 l0_1.length c0_1, .slice A0_2 l0_2.length c0_2] 33 (0, 0))) := ⟨by (with_reducible repeat (first | refine blk_drewN ?_ _ | refine blk_drew ?_ | refine blk_alloc ?_ _)); refine blk_far ?_ (by have h_ := Kd.R_ne HO_11.out BK290.out (by decide); intro e_; exact h_ (by rw [e_]; rfl)) _; (with_reducible repeat (first | refine blk_drewN ?_ _ | refine blk_drew ?_ | refine blk_alloc ?_ _)); exact BK290.out⟩
             have n2_ : Aside0 ((w39.setCell ⟨go30, (((rd_T62 l3 x39_2).f0) : Int).toNat * 2, none⟩ (.int .i64 (wrap64 (((rd_T60 x11_2 ((rd_T62 l3 x39_2).f0)).f0) - ((rd_T62 l3 x39_2).f1))))).heap[gb291]? = some (.cells #[.int .i64 a1_0, .int .i64 a1_1] 35 (0, 0))) := ⟨by (with_reducible repeat (first | refine blk_drewN ?_ _ | refine blk_drew ?_ | refine blk_alloc ?_ _)); refine blk_far ?_ (by have h_ := Kd.R_ne HO_11.out BK291.out (by decide); intro e_; exact h_ (by rw [e_]; rfl)) _; (with_reducible repeat (first | refine blk_drewN ?_ _ | refine blk_drew ?_ | refine blk_alloc ?_ _)); exact BK291.out⟩
             have n3_ : Aside0 ((w39.setCell ⟨go30, (((rd_T62 l3 x39_2).f0) : Int).toNat * 2, none⟩ (.int .i64 (wrap64 (((rd_T60 x11_2 ((rd_T62 l3 x39_2).f0)).f0) - ((rd_T62 l3 x39_2).f1))))).heap[gb304]? = some (.cells #[.int .i64 ((rd_T62 l3 x39_2).f0), .int .i64 ((rd_T62 l3 x39_2).f1)] 62 (0, 0))) := ⟨by (with_reducible repeat (first | refine blk_drewN ?_ _ | refine blk_drew ?_ | refine blk_alloc ?_ _)); refine blk_far ?_ (by have h_ := Kd.R_ne HO_11.out BK304.out (by decide); intro e_; exact h_ (by rw [e_]; rfl)) _; (with_reducible repeat (first | refine blk_drewN ?_ _ | refine blk_drew ?_ | refine blk_alloc ?_ _)); exact BK304.out⟩
             have n4_ : Aside0 (Below w.heap.size w (w39.setCell ⟨go30, (((rd_T62 l3 x39_2).f0) : Int).toNat * 2, none⟩ (.int .i64 (wrap64 (((rd_T60 x11_2 ((rd_T62 l3 x39_2).f0)).f0) - ((rd_T62 l3 x39_2).f1)))))) := ⟨by repeat (first | (with_reducible first | exact HB.out | apply below_alloc | apply pw_below_drewN | apply below_drew1 | refine below_set ?_ GB30.out) | exact HB.out)⟩
             (try clear HO_11); (try clear BK290); (try clear BK291); (try clear BK304); (try clear HB)
             generalize (w39.setCell ⟨go30, (((rd_T62 l3 x39_2).f0) : Int).toNat * 2, none⟩ (.int .i64 (wrap64 (((rd_T60 x11_2 ((rd_T62 l3 x39_2).f0)).f0) - ((rd_T62 l3 x39_2).f1))))) = w42 at n0_ n1_ n2_ n3_ n4_ ⊢
             have HO_11 := n0_
             have BK290 := n1_
             have BK291 := n2_
             have BK304 := n3_
             have HB := n4_
             clear n0_ n1_ n2_ n3_ n4_
             replace HO_11 := dR_ HO_11; replace BK290 := dB_ BK290; replace BK291 := dB_ BK291; replace BK304 := dB_ BK304; replace HB := dH_ HB
             refine start_ (n := 6) (S := fun w' => w'.cell? ⟨gb290, 0, none⟩ = some (.slice A0_0 l0_0.length c0_0) ∧ w'.cell? ⟨gb290, 1, none⟩ = some (.slice A0_1 l0_1.length c0_1) ∧ w'.cell? ⟨gb290, 2, none⟩ = some (.slice A0_2 l0_2.length c0_2) ∧ w'.cell? ⟨gb291, 0, none⟩ = some (.int .i64 a1_0) ∧ w'.cell? ⟨gb291, 1, none⟩ = some (.int .i64 a1_1)) (ds := []) (bs_ 6 0) (by kernel_rfl) rfl (by kernel_rfl) ⟨bc0_ BK290, bc1_ BK290, bc2_ BK290, bc0_ BK291, bc1_ BK291⟩ (fun hHeld => ?_)
             generalize w42.drew = w43 at HO_11 BK290 BK291 BK304 HB HQ41 hHeld ⊢
             refine pu0_ 2 57 (bs_ 6 4) ?_; refine tk0_ 0 55 (bs_ 6 5) hHeld ?_; refine tk0_ 1 56 (bs_ 6 7) hHeld ?_
             refine one_ (i := 3) (N := some 58) (bs_ 6 15) rfl rfl (by kernel_rfl) (by decide) (fun K hK => ?_)
             refine goes_ Try.func40 (by kernel_rfl) rfl #[.agg #[.int .i64 a1_0, .int .i64 a1_1], .slice (some ⟨go30, 0, none⟩) y306.length co40] (by rfl) rfl rfl (by (try simp only [List.map_toArray, List.map_cons, List.map_nil]); first | done | (rw [show y306.length = x11_2.length from (Kd.R_reads' HO_11.out).1.symm] <;> rfl) | rfl | (simp only [List.length_drop, List.length_take]; rfl)) ?_
             with_reducible refine (impl_laden.calls k2 a1_0 a1_1 _ _ y306 t307 t308 _ ?side1 ?side2 A31.out).mono ?_
             (case side1 => exact cw_ (rr_ HO_11))
             (case side2 => rw [show y306.length = x11_2.length from (Kd.R_reads' HO_11.out).1.symm]; exact (Kd.R_reads' HO_11.out).2.1)
             rintro e w44 ⟨rfl, hb⟩
             refine ⟨_, rfl, ?_⟩
             replace HO_11 := rk_ HO_11 hb; replace BK290 := bk_ BK290 hb; replace BK291 := bk_ BK291 hb; replace BK304 := bk_ BK304 hb; replace HB := hk_ HB hb
             (try clear hb); (try clear hb2); (try clear hk); (try clear hi)
             refine hK.out _ _ ⟨bc0_ BK290, bc1_ BK290, bc2_ BK290, bc0_ BK291, bc1_ BK291⟩ (fun hHeld => ?_)
             clear hK K; refine nm_ ?_
             refine one_ (i := 4) (N := some 59) (bs_ 6 31) rfl rfl (by kernel_rfl) (by decide) (fun K hK => ?_)
             refine gs_ Try.func39 #[.agg #[.slice A0_0 l0_0.length c0_0, .slice A0_1 l0_1.length c0_1, .slice A0_2 l0_2.length c0_2], .agg #[.int .i64 t307, .int .i64 t308]] ?_
             with_reducible refine (impl_inside.calls k2 _ _ l0_0 _ _ l0_1 _ _ l0_2 t307 t308 true _ ?side1 ?side2 ?side3 ?side4 ?side5 ?side6 A32.out).mono ?_
             (case side1 => exact cw_ (Kd.C_below HR0_0.out HB.out))
             (case side2 => exact HC0_0.out)
             (case side3 => exact cw_ (Kd.C_below HR0_1.out HB.out))
             (case side4 => exact HC0_1.out)
             (case side5 => exact cw_ (Kd.C_below HR0_2.out HB.out))
             (case side6 => exact HC0_2.out)
             rintro e w45 ⟨rfl, hb⟩
             refine ⟨_, rfl, ?_⟩
             replace HO_11 := rk_ HO_11 hb; replace BK290 := bk_ BK290 hb; replace BK291 := bk_ BK291 hb; replace BK304 := bk_ BK304 hb; replace HB := hk_ HB hb
             (try clear hb); (try clear hb2); (try clear hk); (try clear hi)
             refine hK.out _ _ ⟨bc0_ BK290, bc1_ BK290, bc2_ BK290, bc0_ BK291, bc1_ BK291⟩ (fun hHeld => ?_)
             clear hK K; refine nm_ ?_; refine pu0_ 5 60 (bs_ 6 63) ?_
             refine done_ (by kernel_rfl) ?_
             try go_wp2
             go_roundg k2
             case measure => have := HJ5.out; have := HK2.out; omega
             case rel => exact ⟨(y306), (wrap64 (x39_2 + 1)), rf_, H', ⟨by have := HJ5.out; have := HK2.out; omega⟩, kw_ HO_11, bw_ BK290, bw_ BK291, ⟨hw_ HB⟩⟩
            ·replace c33 := Bool.eq_false_iff.mpr c33; subst c33; rw [if_neg (show ¬ (false = true) by decide)] at H; obtain rfl := Option.some.inj H
             have p303 : 0 ≤ (x39_2 : Int) := od_
             have q303 : x39_2 < (l3.length : Int) := od_
             obtain ⟨ad303, e303, hx303_0, hx303_1⟩ := at_T62 HR3.out x39_2 p303 q303; cases e303
             replace hx303_0 := (HB.out.cell (World.block_lt_of_cell? w _ hx303_0)).trans hx303_0
             replace hx303_1 := (HB.out.cell (World.block_lt_of_cell? w _ hx303_1)).trans hx303_1
             replace p303 := eq_true p303; replace q303 := eq_true q303
             try go_wp2_with (first | ((with_reducible refine gd_ 13 rfl ?_); refine box_event ?hg (N := 13) ?hd (cs := #[.int .i64 0, .int .i64 0]) (t := 62) ?hr ?_; (case hd => rfl); (case hg => rfl); (case hr => exact hr_); intro gb304 hg w46 hbox hb; replace HO_11 := rb_ HO_11 hb; have BK304 := mk_ (hbox); have GW304 := gb_ hg HB; replace HB := bp_ HB hb; have GE304 := GW304; have NB290_304 := nb_ hg BK290; replace BK290 := bl_ BK290 hb; have NB304_290 := ns_ NB290_304; have NB291_304 := nb_ hg BK291; replace BK291 := bl_ BK291 hb; have NB304_291 := ns_ NB291_304; clear hb hbox hg; have hnb47 := NB304_290.out; have hnc47 := NB290_304.out; have hnb48 := NB304_291.out; have hnc48 := NB291_304.out; have hcz49_0 := bc0_ BK304; have hcz49_1 := bc1_ BK304; have hfz49_0 := bf_ BK304 0; have hfz49_1 := bf_ BK304 1))
             have n0_ : Aside0 (Kd.R k60 60 ((w46.setCell ⟨gb304, 0, none⟩ (.int .i64 ((rd_T62 l3 x39_2).f0))).setCell ⟨gb304, 1, none⟩ (.int .i64 ((rd_T62 l3 x39_2).f1))) w.heap.size (fun _ => True) v301 x11_2) := ⟨by (with_reducible repeat (first | apply Kd.R_alloc | apply Kd.R_drewN | apply Kd.R_drew)); exact Kd.R_mono (Kd.R_far (p := ⟨gb304, 1, none⟩) (Kd.R_far (p := ⟨gb304, 0, none⟩) (Kd.R_types HO_11.out BK304.out (by decide)) (fun _ hk => hk.2) (.int .i64 ((rd_T62 l3 x39_2).f0))) (fun _ hk => hk.2) (.int .i64 ((rd_T62 l3 x39_2).f1))) (fun _ hk => trivial)⟩
             have n1_ : Aside0 (((w46.setCell ⟨gb304, 0, none⟩ (.int .i64 ((rd_T62 l3 x39_2).f0))).setCell ⟨gb304, 1, none⟩ (.int .i64 ((rd_T62 l3 x39_2).f1))).heap[gb290]? = some (.cells #[.slice A0_0 l0_0.length c0_0, .slice A0_1 l0_1.length c0_1, .slice A0_2 l0_2.length c0_2] 33 (0, 0))) := ⟨by (with_reducible repeat (first | refine blk_drewN ?_ _ | refine blk_drew ?_ | refine blk_alloc ?_ _)); refine blk_far ?_ NB290_304.out _; (with_reducible repeat (first | refine blk_drewN ?_ _ | refine blk_drew ?_ | refine blk_alloc ?_ _)); refine blk_far ?_ NB290_304.out _; (with_reducible repeat (first | refine blk_drewN ?_ _ | refine blk_drew ?_ | refine blk_alloc ?_ _)); exact BK290.out⟩
             have n2_ : Aside0 (((w46.setCell ⟨gb304, 0, none⟩ (.int .i64 ((rd_T62 l3 x39_2).f0))).setCell ⟨gb304, 1, none⟩ (.int .i64 ((rd_T62 l3 x39_2).f1))).heap[gb291]? = some (.cells #[.int .i64 a1_0, .int .i64 a1_1] 35 (0, 0))) := ⟨by (with_reducible repeat (first | refine blk_drewN ?_ _ | refine blk_drew ?_ | refine blk_alloc ?_ _)); refine blk_far ?_ NB291_304.out _; (with_reducible repeat (first | refine blk_drewN ?_ _ | refine blk_drew ?_ | refine blk_alloc ?_ _)); refine blk_far ?_ NB291_304.out _; (with_reducible repeat (first | refine blk_drewN ?_ _ | refine blk_drew ?_ | refine blk_alloc ?_ _)); exact BK291.out⟩
             have n3_ : Aside0 (((w46.setCell ⟨gb304, 0, none⟩ (.int .i64 ((rd_T62 l3 x39_2).f0))).setCell ⟨gb304, 1, none⟩ (.int .i64 ((rd_T62 l3 x39_2).f1))).heap[gb304]? = some (.cells #[.int .i64 ((rd_T62 l3 x39_2).f0), .int .i64 ((rd_T62 l3 x39_2).f1)] 62 (0, 0))) := ⟨by (with_reducible repeat (first | refine blk_drewN ?_ _ | refine blk_drew ?_ | refine blk_alloc ?_ _)); refine blk_put (cs := #[.int .i64 ((rd_T62 l3 x39_2).f0), .int .i64 0]) ?_ 1 _ rfl; (with_reducible repeat (first | refine blk_drewN ?_ _ | refine blk_drew ?_ | refine blk_alloc ?_ _)); refine blk_put (cs := #[.int .i64 0, .int .i64 0]) ?_ 0 _ rfl; (with_reducible repeat (first | refine blk_drewN ?_ _ | refine blk_drew ?_ | refine blk_alloc ?_ _)); exact BK304.out⟩
             have n4_ : Aside0 (Below w.heap.size w ((w46.setCell ⟨gb304, 0, none⟩ (.int .i64 ((rd_T62 l3 x39_2).f0))).setCell ⟨gb304, 1, none⟩ (.int .i64 ((rd_T62 l3 x39_2).f1)))) := ⟨by repeat (first | (with_reducible first | exact HB.out | apply below_alloc | apply pw_below_drewN | apply below_drew1 | refine below_set ?_ GE304.out) | exact HB.out)⟩
             (try clear HO_11); (try clear BK290); (try clear BK291); (try clear BK304); (try clear HB)
             generalize ((w46.setCell ⟨gb304, 0, none⟩ (.int .i64 ((rd_T62 l3 x39_2).f0))).setCell ⟨gb304, 1, none⟩ (.int .i64 ((rd_T62 l3 x39_2).f1))) = w50 at n0_ n1_ n2_ n3_ n4_ ⊢
             have HO_11 := n0_
             have BK290 := n1_
             have BK291 := n2_
             have BK304 := n3_
             have HB := n4_
             clear n0_ n1_ n2_ n3_ n4_
             replace HO_11 := dR_ HO_11; replace BK290 := dB_ BK290; replace BK291 := dB_ BK291; replace BK304 := dB_ BK304; replace HB := dH_ HB
             obtain ⟨Ao52, co52, eo52⟩ := Kd.R_slice HO_11.out
             (first | subst eo52 | (injection eo52 with f1_ f2_ f3_; have f4_ := f1_.symm; have f5_ := f3_.symm; clear f1_ f2_ f3_; subst f4_; subst f5_))
             have p305 : 0 ≤ (((rd_T62 l3 x39_2).f0) : Int) := od_
             have q305 : ((rd_T62 l3 x39_2).f0) < (x11_2.length : Int) := od_
             obtain ⟨ad305, e305, hx305_0, hx305_1⟩ := at_T60 (rr_ HO_11) ((rd_T62 l3 x39_2).f0) p305 q305; cases e305; replace p305 := eq_true p305; replace q305 := eq_true q305
             have p30 : 0 ≤ (((rd_T62 l3 x39_2).f0) : Int) := od_
             have q30 : (((rd_T62 l3 x39_2).f0) : Int) < ((x11_2.length : Int) : Int) := od_
             obtain ⟨go30, co30, eo30, gb30, gl30, cl30, HG30⟩ := Kd.R_form HO_11.out (by omega)
             (first | cases eo30 | (injection eo30 with ea_ en_ ec_; (first | subst ea_ | (injection ea_ with ea_; subst ea_)); subst ec_; clear en_))
             have GB30 := mk_ gb30; have GG30 := mk_ HG30; clear gb30 gl30 HG30
             (first | simp only [add_plain] at hx305_0 | skip)
             (first | simp only [add_plain] at hx305_1 | skip)
             obtain ⟨ce30, hcl30, hM30, hcc30, hfr30⟩ := Kd.R_elem HO_11.out z60 (((rd_T62 l3 x39_2).f0) : Int) p30 q30
             obtain rfl := k60_openM hM30
             have hx30_0 : World.cell? _ ⟨go30, (((rd_T62 l3 x39_2).f0) : Int).toNat * 2, none⟩ = some (.int .i64 ((rd_T60 x11_2 ((rd_T62 l3 x39_2).f0)).f0)) := hcc30 0 _ rfl
             have hx30_1 : World.cell? _ ⟨go30, (((rd_T62 l3 x39_2).f0) : Int).toNat * 2 + 1, none⟩ = some (.int .i64 ((rd_T60 x11_2 ((rd_T62 l3 x39_2).f0)).f1)) := hcc30 1 _ rfl
             have hf30_0 : World.frozen? _ ⟨go30, (((rd_T62 l3 x39_2).f0) : Int).toNat * 2, none⟩ = false := hfr30 0
             have hf30_1 : World.frozen? _ ⟨go30, (((rd_T62 l3 x39_2).f0) : Int).toNat * 2 + 1, none⟩ = false := hfr30 1
             clear hcl30 hcc30 hfr30; (try clear hM30); replace p30 := eq_true p30; replace q30 := eq_true q30
             obtain ⟨ce53, hcl53, hM53, hcc53, hfr53⟩ := Kd.R_elem HO_11.out z60 (((rd_T62 l3 x39_2).f0) : Int) (od_) (by have h_ : (((rd_T62 l3 x39_2).f0) : Int) < ((x11_2.length : Int) : Int) := od_; first | exact h_ | (have e_ := (Kd.R_reads' HO_11.out).1; omega) | simpa using h_)
             obtain rfl := k60_openM hM53
             have HP53 := (Kd.R_seg HO_11.out (((rd_T62 l3 x39_2).f0) : Int) (od_) (by have h_ : (((rd_T62 l3 x39_2).f0) : Int) < ((x11_2.length : Int) : Int) := od_; first | exact h_ | (have e_ := (Kd.R_reads' HO_11.out).1; omega) | simpa using h_) (seg := [.int .i64 (wrap64 (((rd_T60 x11_2 ((rd_T62 l3 x39_2).f0)).f0) - ((rd_T62 l3 x39_2).f1)))]) (j := 0) hcl53 hcc53 (show 1 ≤ 2 from by decide) (x' := (⟨wrap64 (((rd_T60 x11_2 ((rd_T62 l3 x39_2).f0)).f0) - ((rd_T62 l3 x39_2).f1)), (rd_T60 x11_2 ((rd_T62 l3 x39_2).f0)).f1⟩ : S60)) (k60_mkM _ _ _ (⟨wrap64 (((rd_T60 x11_2 ((rd_T62 l3 x39_2).f0)).f0) - ((rd_T62 l3 x39_2).f1)), (rd_T60 x11_2 ((rd_T62 l3 x39_2).f0)).f1⟩ : S60) ) (fun _ hk => hk)).1
             rw [← Ny306.out] at HP53
             have HQ53 := mk_ HP53; clear hcl53 hcc53 hfr53 HP53; (try clear hM53)
             refine start_ (n := 12) (S := fun w' => w'.cell? ⟨gb304, 0, none⟩ = some (.int .i64 ((rd_T62 l3 x39_2).f0)) ∧ w'.cell? ⟨gb304, 1, none⟩ = some (.int .i64 ((rd_T62 l3 x39_2).f1)) ∧ w'.cell? ⟨go30, ((((rd_T62 l3 x39_2).f0)).toNat * 2), none⟩ = some (.int .i64 ((rd_T60 x11_2 ((rd_T62 l3 x39_2).f0)).f0)) ∧ w'.cell? ⟨go30, ((((rd_T62 l3 x39_2).f0)).toNat * 2) + 1, none⟩ = some (.int .i64 ((rd_T60 x11_2 ((rd_T62 l3 x39_2).f0)).f1))) (ds := [11]) (bs_ 12 0) (by kernel_rfl) rfl (by kernel_rfl) ⟨bc0_ BK304, bc1_ BK304, hx305_0, hx305_1⟩ (fun hHeld => ?_); refine with_tabW impl_Leaves.tab10 impl_Leaves.bits10 (fun HT_ HW_ => ?_)
             generalize w50.drew = w51 at HO_11 BK290 BK291 BK304 HB GG30 HQ53 hf30_0 hf30_1 hx305_0 hx305_1 hx30_0 hx30_1 hHeld ⊢
             refine pu_ HT_ 0 44 (bs_ 12 1) ?_; refine pu_ HT_ 1 45 (bs_ 12 3) ?_; refine pu_ HT_ 6 50 (bs_ 12 67) ?_; refine tk_ HT_ HW_ 2 46 (bs_ 12 71) hHeld ?_; refine pu_ HT_ 3 47 (bs_ 12 79) ?_; refine pu_ HT_ 4 48 (bs_ 12 95) ?_; refine tk_ HT_ HW_ 5 49 (bs_ 12 127) hHeld ?_; refine tk_ HT_ HW_ 7 51 (bs_ 12 255) hHeld ?_; refine pu_ HT_ 8 52 (bs_ 12 511) ?_; refine pu_ HT_ 9 53 (bs_ 12 1023) ?_; refine pu_ HT_ 10 54 (bs_ 12 2047) ?_
             refine last_ (i := 11) (N := none) (bs_ 12 4095) rfl rfl (one_of HT_.out (by kernel_rfl)) (by decide) (fun K hK => ?_)
             refine skip_ (w1 := ?_) (by rfl) rfl ?_ ?_
             rotate_left
             ·go_simp
              rfl
             refine hK.out _ _ ?_
             clear hK K
             refine done_ (done_of HT_.out (by kernel_rfl)) ?_
             try go_wp2
             have n0_ : Aside0 (Kd.R k60 60 (w51.setCell ⟨go30, (((rd_T62 l3 x39_2).f0) : Int).toNat * 2, none⟩ (.int .i64 (wrap64 (((rd_T60 x11_2 ((rd_T62 l3 x39_2).f0)).f0) - ((rd_T62 l3 x39_2).f1))))) w.heap.size (fun _ => True) (.slice (some ⟨go30, 0, none⟩) x11_2.length co52) y306) := kw_ HQ53
             have n1_ : Aside0 ((w51.setCell ⟨go30, (((rd_T62 l3 x39_2).f0) : Int).toNat * 2, none⟩ (.int .i64 (wrap64 (((rd_T60 x11_2 ((rd_T62 l3 x39_2).f0)).f0) - ((rd_T62 l3 x39_2).f1))))).heap[gb290]? = some (.cells #[.slice A0_0 l0_0.length c0_0, .slice A0_1 l0_1.length c0_1, .slice A0_2 l0_2.length c0_2] 33 (0, 0))) := ⟨by (with_reducible repeat (first | refine blk_drewN ?_ _ | refine blk_drew ?_ | refine blk_alloc ?_ _)); refine blk_far ?_ (by have h_ := Kd.R_ne HO_11.out BK290.out (by decide); intro e_; exact h_ (by rw [e_]; rfl)) _; (with_reducible repeat (first | refine blk_drewN ?_ _ | refine blk_drew ?_ | refine blk_alloc ?_ _)); exact BK290.out⟩
             have n2_ : Aside0 ((w51.setCell ⟨go30, (((rd_T62 l3 x39_2).f0) : Int).toNat * 2, none⟩ (.int .i64 (wrap64 (((rd_T60 x11_2 ((rd_T62 l3 x39_2).f0)).f0) - ((rd_T62 l3 x39_2).f1))))).heap[gb291]? = some (.cells #[.int .i64 a1_0, .int .i64 a1_1] 35 (0, 0))) := ⟨by (with_reducible repeat (first | refine blk_drewN ?_ _ | refine blk_drew ?_ | refine blk_alloc ?_ _)); refine blk_far ?_ (by have h_ := Kd.R_ne HO_11.out BK291.out (by decide); intro e_; exact h_ (by rw [e_]; rfl)) _; (with_reducible repeat (first | refine blk_drewN ?_ _ | refine blk_drew ?_ | refine blk_alloc ?_ _)); exact BK291.out⟩
             have n3_ : Aside0 ((w51.setCell ⟨go30, (((rd_T62 l3 x39_2).f0) : Int).toNat * 2, none⟩ (.int .i64 (wrap64 (((rd_T60 x11_2 ((rd_T62 l3 x39_2).f0)).f0) - ((rd_T62 l3 x39_2).f1))))).heap[gb304]? = some (.cells #[.int .i64 ((rd_T62 l3 x39_2).f0), .int .i64 ((rd_T62 l3 x39_2).f1)] 62 (0, 0))) := ⟨by (with_reducible repeat (first | refine blk_drewN ?_ _ | refine blk_drew ?_ | refine blk_alloc ?_ _)); refine blk_far ?_ (by have h_ := Kd.R_ne HO_11.out BK304.out (by decide); intro e_; exact h_ (by rw [e_]; rfl)) _; (with_reducible repeat (first | refine blk_drewN ?_ _ | refine blk_drew ?_ | refine blk_alloc ?_ _)); exact BK304.out⟩
             have n4_ : Aside0 (Below w.heap.size w (w51.setCell ⟨go30, (((rd_T62 l3 x39_2).f0) : Int).toNat * 2, none⟩ (.int .i64 (wrap64 (((rd_T60 x11_2 ((rd_T62 l3 x39_2).f0)).f0) - ((rd_T62 l3 x39_2).f1)))))) := ⟨by repeat (first | (with_reducible first | exact HB.out | apply below_alloc | apply pw_below_drewN | apply below_drew1 | refine below_set ?_ GB30.out) | exact HB.out)⟩
             (try clear HO_11); (try clear BK290); (try clear BK291); (try clear BK304); (try clear HB)
             generalize (w51.setCell ⟨go30, (((rd_T62 l3 x39_2).f0) : Int).toNat * 2, none⟩ (.int .i64 (wrap64 (((rd_T60 x11_2 ((rd_T62 l3 x39_2).f0)).f0) - ((rd_T62 l3 x39_2).f1))))) = w54 at n0_ n1_ n2_ n3_ n4_ ⊢
             have HO_11 := n0_
             have BK290 := n1_
             have BK291 := n2_
             have BK304 := n3_
             have HB := n4_
             clear n0_ n1_ n2_ n3_ n4_
             replace HO_11 := dR_ HO_11; replace BK290 := dB_ BK290; replace BK291 := dB_ BK291; replace BK304 := dB_ BK304; replace HB := dH_ HB
             refine start_ (n := 6) (S := fun w' => w'.cell? ⟨gb290, 0, none⟩ = some (.slice A0_0 l0_0.length c0_0) ∧ w'.cell? ⟨gb290, 1, none⟩ = some (.slice A0_1 l0_1.length c0_1) ∧ w'.cell? ⟨gb290, 2, none⟩ = some (.slice A0_2 l0_2.length c0_2) ∧ w'.cell? ⟨gb291, 0, none⟩ = some (.int .i64 a1_0) ∧ w'.cell? ⟨gb291, 1, none⟩ = some (.int .i64 a1_1)) (ds := []) (bs_ 6 0) (by kernel_rfl) rfl (by kernel_rfl) ⟨bc0_ BK290, bc1_ BK290, bc2_ BK290, bc0_ BK291, bc1_ BK291⟩ (fun hHeld => ?_)
             generalize w54.drew = w55 at HO_11 BK290 BK291 BK304 HB HQ53 hHeld ⊢
             refine pu0_ 2 57 (bs_ 6 4) ?_; refine tk0_ 0 55 (bs_ 6 5) hHeld ?_; refine tk0_ 1 56 (bs_ 6 7) hHeld ?_
             refine one_ (i := 3) (N := some 58) (bs_ 6 15) rfl rfl (by kernel_rfl) (by decide) (fun K hK => ?_)
             refine goes_ Try.func40 (by kernel_rfl) rfl #[.agg #[.int .i64 a1_0, .int .i64 a1_1], .slice (some ⟨go30, 0, none⟩) y306.length co52] (by rfl) rfl rfl (by (try simp only [List.map_toArray, List.map_cons, List.map_nil]); first | done | (rw [show y306.length = x11_2.length from (Kd.R_reads' HO_11.out).1.symm] <;> rfl) | rfl | (simp only [List.length_drop, List.length_take]; rfl)) ?_
             with_reducible refine (impl_laden.calls k2 a1_0 a1_1 _ _ y306 t307 t308 _ ?side1 ?side2 A31.out).mono ?_
             (case side1 => exact cw_ (rr_ HO_11))
             (case side2 => rw [show y306.length = x11_2.length from (Kd.R_reads' HO_11.out).1.symm]; exact (Kd.R_reads' HO_11.out).2.1)
             rintro e w56 ⟨rfl, hb⟩
             refine ⟨_, rfl, ?_⟩
             replace HO_11 := rk_ HO_11 hb; replace BK290 := bk_ BK290 hb; replace BK291 := bk_ BK291 hb; replace BK304 := bk_ BK304 hb; replace HB := hk_ HB hb
             (try clear hb); (try clear hb2); (try clear hk); (try clear hi)
             refine hK.out _ _ ⟨bc0_ BK290, bc1_ BK290, bc2_ BK290, bc0_ BK291, bc1_ BK291⟩ (fun hHeld => ?_)
             clear hK K; refine nm_ ?_
             refine one_ (i := 4) (N := some 59) (bs_ 6 31) rfl rfl (by kernel_rfl) (by decide) (fun K hK => ?_)
             refine gs_ Try.func39 #[.agg #[.slice A0_0 l0_0.length c0_0, .slice A0_1 l0_1.length c0_1, .slice A0_2 l0_2.length c0_2], .agg #[.int .i64 t307, .int .i64 t308]] ?_
             with_reducible refine (impl_inside.calls k2 _ _ l0_0 _ _ l0_1 _ _ l0_2 t307 t308 false _ ?side1 ?side2 ?side3 ?side4 ?side5 ?side6 A32.out).mono ?_
             (case side1 => exact cw_ (Kd.C_below HR0_0.out HB.out))
             (case side2 => exact HC0_0.out)
             (case side3 => exact cw_ (Kd.C_below HR0_1.out HB.out))
             (case side4 => exact HC0_1.out)
             (case side5 => exact cw_ (Kd.C_below HR0_2.out HB.out))
             (case side6 => exact HC0_2.out)
             rintro e w57 ⟨rfl, hb⟩
             refine ⟨_, rfl, ?_⟩
             replace HO_11 := rk_ HO_11 hb; replace BK290 := bk_ BK290 hb; replace BK291 := bk_ BK291 hb; replace BK304 := bk_ BK304 hb; replace HB := hk_ HB hb
             (try clear hb); (try clear hb2); (try clear hk); (try clear hi)
             refine hK.out _ _ ⟨bc0_ BK290, bc1_ BK290, bc2_ BK290, bc0_ BK291, bc1_ BK291⟩ (fun hHeld => ?_)
             clear hK K; refine nm_ ?_; refine pu0_ 5 60 (bs_ 6 63) ?_
             refine done_ (by kernel_rfl) ?_
             try go_wp2
             go_ret
             exact ⟨re_, hw_ HB⟩
           ·rw [if_neg c29] at H
            exact absurd H (by simp)
          ·rw [if_neg c28] at H
           exact absurd H (by simp)
         ·rw [if_neg c27] at H
          exact absurd H (by simp)
        ·rw [if_neg c26] at H
         exact absurd H (by simp)
       ·rw [if_neg c25] at H; have c25b0 : decide (x39_2 < (l3.length : Int)) = false := decide_eq_false c25; clear c25; obtain rfl := Option.some.inj H; go_wp2; go_ret
        exact ⟨re_, hw_ HB⟩
    ·replace c19 := Bool.eq_false_iff.mpr c19; subst c19; rw [if_neg (show ¬ (false = true) by decide)] at H; obtain rfl := Option.some.inj H
     try go_wp2
     replace BK290 := dB_ BK290; replace BK291 := dB_ BK291; replace HB := dH_ HB
     refine start_ (n := 6) (S := fun w' => w'.cell? ⟨gb290, 0, none⟩ = some (.slice A0_0 l0_0.length c0_0) ∧ w'.cell? ⟨gb290, 1, none⟩ = some (.slice A0_1 l0_1.length c0_1) ∧ w'.cell? ⟨gb290, 2, none⟩ = some (.slice A0_2 l0_2.length c0_2) ∧ w'.cell? ⟨gb291, 0, none⟩ = some (.int .i64 a1_0) ∧ w'.cell? ⟨gb291, 1, none⟩ = some (.int .i64 a1_1)) (ds := []) (bs_ 6 0) (by kernel_rfl) rfl (by kernel_rfl) ⟨bc0_ BK290, bc1_ BK290, bc2_ BK290, bc0_ BK291, bc1_ BK291⟩ (fun hHeld => ?_)
     generalize wc.drew = w58 at BK290 BK291 HB hHeld ⊢
     refine pu0_ 2 31 (bs_ 6 4) ?_; refine tk0_ 0 29 (bs_ 6 5) hHeld ?_; refine tk0_ 1 30 (bs_ 6 7) hHeld ?_
     refine one_ (i := 3) (N := some 32) (bs_ 6 15) rfl rfl (by kernel_rfl) (by decide) (fun K hK => ?_)
     refine gs_ Try.func40 #[.agg #[.int .i64 a1_0, .int .i64 a1_1], .slice A2 l2.length c2] ?_
     with_reducible refine (impl_laden.calls kj5 a1_0 a1_1 _ _ l2 t297 t298 _ ?side1 ?side2 A17.out).mono ?_
     (case side1 => exact cw_ (Kd.C_below HR2.out HB.out))
     (case side2 => exact HC2.out)
     rintro e w59 ⟨rfl, hb⟩
     refine ⟨_, rfl, ?_⟩
     replace BK290 := bk_ BK290 hb; replace BK291 := bk_ BK291 hb; replace HB := hk_ HB hb
     (try clear hb); (try clear hb2); (try clear hk); (try clear hi)
     refine hK.out _ _ ⟨bc0_ BK290, bc1_ BK290, bc2_ BK290, bc0_ BK291, bc1_ BK291⟩ (fun hHeld => ?_)
     clear hK K; refine nm_ ?_
     refine one_ (i := 4) (N := some 33) (bs_ 6 31) rfl rfl (by kernel_rfl) (by decide) (fun K hK => ?_)
     refine gs_ Try.func39 #[.agg #[.slice A0_0 l0_0.length c0_0, .slice A0_1 l0_1.length c0_1, .slice A0_2 l0_2.length c0_2], .agg #[.int .i64 t297, .int .i64 t298]] ?_
     with_reducible refine (impl_inside.calls kj5 _ _ l0_0 _ _ l0_1 _ _ l0_2 t297 t298 false _ ?side1 ?side2 ?side3 ?side4 ?side5 ?side6 A18.out).mono ?_
     (case side1 => exact cw_ (Kd.C_below HR0_0.out HB.out))
     (case side2 => exact HC0_0.out)
     (case side3 => exact cw_ (Kd.C_below HR0_1.out HB.out))
     (case side4 => exact HC0_1.out)
     (case side5 => exact cw_ (Kd.C_below HR0_2.out HB.out))
     (case side6 => exact HC0_2.out)
     rintro e w60 ⟨rfl, hb⟩
     refine ⟨_, rfl, ?_⟩
     replace BK290 := bk_ BK290 hb; replace BK291 := bk_ BK291 hb; replace HB := hk_ HB hb
     (try clear hb); (try clear hb2); (try clear hk); (try clear hi)
     refine hK.out _ _ ⟨bc0_ BK290, bc1_ BK290, bc2_ BK290, bc0_ BK291, bc1_ BK291⟩ (fun hHeld => ?_)
     clear hK K; refine nm_ ?_; refine pu0_ 5 34 (bs_ 6 63) ?_
     refine done_ (by kernel_rfl) ?_
     try go_wp2
     go_ret
     exact ⟨re_, hw_ HB⟩

end Go.Proofs.Yteedbciobdcmaaa.QFnExactLeaves
-- squeezed
