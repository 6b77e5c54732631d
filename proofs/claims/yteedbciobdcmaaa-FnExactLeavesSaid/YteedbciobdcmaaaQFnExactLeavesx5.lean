/- Lean functions that tell what the Go functions used by one law answer, and for each a proof that the Go code comes to just these answers; no condition. Printed by this session's own program over the kit's printer. -/
import Derived.Test.YteedbciobdcmaaaWSq
import Derived.Test.YteedbciobdcmaaaQFnExactLeavesx0
import Derived.Test.YteedbciobdcmaaaQFnExactLeavesx1
import Derived.Test.YteedbciobdcmaaaQFnExactLeavesx3
import Derived.Test.YteedbciobdcmaaaQFnExactLeavesx4
namespace Go.Proofs.Yteedbciobdcmaaa.QFnExactLeaves
open Go.RowKit Go.Proofs.YteedbciobdcmaaaW.PrintWords Go.Proofs.YteedbciobdcmaaaW.PrintLast Go.Proofs.YteedbciobdcmaaaW.PrintMore
attribute [local go_sem] max2_int min2_int max_two min_two max_three min_three max_four min_four   -- for this text's walks alone
attribute [local go_sem high] go_eql go_neq go_lss go_leq go_gtr go_geq go_store   -- for this text's walks alone
set_option linter.unusedVariables false
set_option linter.unusedSimpArgs false

/-! ### spec_Inside: function 33 -/
def spec_Inside.j0 : Nat → Bool → List Int → List Int → List Int → Int → Int → Option (Bool)
 | 0, _, _, _, _, _, _ => none
 | k + 1, x41, x145000, x145001, x145002, x146000, x146001 => if x41 = true then (some false) else ((spec_l1Low.f k x145000 x146000).bind fun t151 => (if 0 ≤ (wrap64 (t151 + 1)) then (if (wrap64 (t151 + 1)) < (x145000.length : Int) then (if 0 ≤ t151 then (if t151 < (x145000.length : Int) then (if t151 < (x145001.length : Int) then (if (wrap64 (t151 + 1)) < (x145001.length : Int) then (if t151 < (x145002.length : Int) then (if (wrap64 (t151 + 1)) < (x145002.length : Int) then (if (wrap64 (x146001 * (wrap64 ((rd x145000 (wrap64 (t151 + 1))) - (rd x145000 t151))))) ≥ (wrap64 ((wrap64 ((wrap64 ((rd x145001 t151) * (wrap64 ((rd x145000 (wrap64 (t151 + 1))) - (rd x145000 t151))))) + (wrap64 ((wrap64 ((rd x145001 (wrap64 (t151 + 1))) - (rd x145001 t151))) * (wrap64 (x146000 - (rd x145000 t151))))))) * x146000)) then (some (decide ((wrap64 (x146001 * (wrap64 ((rd x145000 (wrap64 (t151 + 1))) - (rd x145000 t151))))) ≤ (wrap64 ((wrap64 ((wrap64 ((rd x145002 t151) * (wrap64 ((rd x145000 (wrap64 (t151 + 1))) - (rd x145000 t151))))) + (wrap64 ((wrap64 ((rd x145002 (wrap64 (t151 + 1))) - (rd x145002 t151))) * (wrap64 (x146000 - (rd x145000 t151))))))) * x146000))))) else (some false)) else (none)) else (none)) else (none)) else (none)) else (none)) else (none)) else (none)) else (none)))
def spec_Inside.f (k : Nat) (l0_0 : List Int) (l0_1 : List Int) (l0_2 : List Int) (a1_0 : Int) (a1_1 : Int) : Option (Bool) := (spec_EnvelopeOk.f k l0_0 l0_1 l0_2).bind fun t146 => (if t146 = true then (if a1_0 < 1 then (spec_Inside.j0 k true l0_0 l0_1 l0_2 a1_0 a1_1) else (if 0 < (l0_0.length : Int) then (if 0 ≤ (wrap64 ((l0_0.length : Int) - 1)) then (if (wrap64 ((l0_0.length : Int) - 1)) < (l0_0.length : Int) then ((spec_l1In.f a1_0 (rd l0_0 0) (rd l0_0 (wrap64 ((l0_0.length : Int) - 1)))).bind fun t149 => (if t149 = true then ((spec_l1In.f a1_1 (-1000000000) 1000000000).bind fun t150 => (spec_Inside.j0 k (!t150) l0_0 l0_1 l0_2 a1_0 a1_1)) else (spec_Inside.j0 k true l0_0 l0_1 l0_2 a1_0 a1_1))) else (none)) else (none)) else (none))) else (spec_Inside.j0 k true l0_0 l0_1 l0_2 a1_0 a1_1))
theorem spec_Inside.mono_l : ∀ k, (∀ y0 y1 y2 y3 y4 y5, LeO (spec_Inside.j0 k y0 y1 y2 y3 y4 y5) (spec_Inside.j0 (k + 1) y0 y1 y2 y3 y4 y5))
 | 0 => fun _ _ _ _ _ _ r h => by simp [spec_Inside.j0] at h
 | k + 1 => by
  have ih0 := spec_Inside.mono_l k
  ·intro y0 y1 y2 y3 y4 y5
   unfold spec_Inside.j0
   repeat' first
   | (with_reducible exact ih0 _ _ _ _ _ _)
   | (with_reducible exact spec_EnvelopeOk.mono _ _ _ _)
   | (with_reducible exact spec_l1Low.mono _ _ _)
   | (with_reducible exact LeO.refl _)
   | (with_reducible exact LeO.none _)
   | (with_reducible refine LeO.ite ?_ ?_)
   | (with_reducible refine LeO.bind ?_ (fun _ => ?_))
   | exact ih0 _ _ _ _ _ _
   | exact spec_EnvelopeOk.mono _ _ _ _
   | exact spec_l1Low.mono _ _ _
   | exact LeO.none _
   | refine LeO.ite ?_ ?_
   | refine LeO.bind ?_ (fun _ => ?_)
theorem spec_Inside.mono : ∀ a0 a1 a2 a3 a4 k, LeO (spec_Inside.f k a0 a1 a2 a3 a4) (spec_Inside.f (k + 1) a0 a1 a2 a3 a4) := by
 intro a0 a1 a2 a3 a4 k
 have ih0 := spec_Inside.mono_l k
 unfold spec_Inside.f
 repeat' first
   | (with_reducible exact ih0 _ _ _ _ _ _)
   | (with_reducible exact spec_EnvelopeOk.mono _ _ _ _)
   | (with_reducible exact spec_l1Low.mono _ _ _)
   | (with_reducible exact LeO.refl _)
   | (with_reducible exact LeO.none _)
   | (with_reducible refine LeO.ite ?_ ?_)
   | (with_reducible refine LeO.bind ?_ (fun _ => ?_))
   | exact ih0 _ _ _ _ _ _
   | exact spec_EnvelopeOk.mono _ _ _ _
   | exact spec_l1Low.mono _ _ _
   | exact LeO.none _
   | refine LeO.ite ?_ ?_
   | refine LeO.bind ?_ (fun _ => ?_)
def spec_Inside.T1 : Bool × List (List Nat × List Nat) := (true, [([], []), ([0], [0]), ([1], [1]), ([2, 1], [2]), ([3], [3]), ([4, 3], [3, 4]), ([5, 3], [3, 5]), ([3, 6], [3, 6]), ([7, 3], [7]), ([8], [8]), ([9, 8], [8, 9]), ([8], [8]), ([11, 8], [8, 11]), ([12, 8], [8, 12]), ([13, 8], [8, 13]), ([8], [8]), ([15, 8], [8, 15]), ([8], [8]), ([17, 8], [8, 17]), ([18, 8], [8, 18]), ([19, 8], [8, 19]), ([16, 20, 8], [8, 16, 20]), ([21, 8], [8, 21]), ([10, 14, 22, 8, 8], [8, 10, 14, 22]), ([23, 8], [8, 23]), ([8, 24], [8, 24]), ([25, 23], [25]), ([26], [26]), ([27, 26], [26, 27]), ([28, 26, 26], [26, 28]), ([29, 26], [26, 29]), ([26, 30], [26, 30])])
def spec_Inside.B1 : List Nat := [0, 1, 3, 7, 15, 31, 63, 127, 255, 511, 1023, 511, 2559, 6655, 14847, 511, 33279, 511, 131583, 393727, 918015, 2064895, 4162047, 8388607, 16777215, 33554431, 67108863, 134217727, 268435455, 536870911, 1073741823, 2147483647]
theorem spec_Inside.tab1 : rtab .any (opsOf Try.f33 1) = spec_Inside.T1 := by kernel_rfl
theorem spec_Inside.bits1 : waitsOk spec_Inside.T1.2 spec_Inside.B1 = true := by kernel_rfl
def spec_Inside.T4 : Bool × List (List Nat × List Nat) := (true, [([], []), ([0], [0]), ([], []), ([2], [2]), ([1, 3], [1, 3]), ([4], [4]), ([], []), ([6], [6]), ([], []), ([7, 8], [7, 8]), ([9], [9]), ([5, 10], [5, 10]), ([], []), ([12], [12]), ([], []), ([14], [14]), ([], []), ([15, 16], [15, 16]), ([17], [17]), ([13, 18], [13, 18]), ([11, 0, 1, 2, 3, 4, 5, 6, 7, 8, 9, 10, 11], [11]), ([19, 20, 0, 1, 2, 3, 4, 5, 6, 7, 8, 9, 10, 11, 12, 13, 14, 15, 16, 17, 18, 19, 20], [19])])
def spec_Inside.B4 : List Nat := [0, 1, 0, 4, 15, 31, 0, 64, 0, 448, 960, 2047, 0, 4096, 0, 16384, 0, 114688, 245760, 520192, 4095, 2097151]
theorem spec_Inside.tab4 : rtab .any (opsOf Try.f33 4) = spec_Inside.T4 := by kernel_rfl
theorem spec_Inside.bits4 : waitsOk spec_Inside.T4.2 spec_Inside.B4 = true := by kernel_rfl
def spec_Inside.T5 : Bool × List (List Nat × List Nat) := (true, [([], []), ([0], [0]), ([], []), ([1, 2], [1, 2]), ([3], [3]), ([], []), ([4, 5], [4, 5]), ([], []), ([7], [7]), ([], []), ([9], [9]), ([8, 10], [8, 10]), ([11], [11]), ([], []), ([13], [13]), ([], []), ([14, 15], [14, 15]), ([16], [16]), ([12, 17], [12, 17]), ([], []), ([18, 19], [18, 19]), ([6, 20], [6, 20]), ([21, 0, 1, 2, 3, 4, 5, 6, 7, 8, 9, 10, 11, 12, 13, 14, 15, 16, 17, 18, 19, 20, 21], [21])])
def spec_Inside.B5 : List Nat := [0, 1, 0, 7, 15, 0, 63, 0, 128, 0, 512, 1920, 3968, 0, 8192, 0, 57344, 122880, 262016, 0, 1048448, 2097151, 4194303]
theorem spec_Inside.tab5 : rtab .any (opsOf Try.f33 5) = spec_Inside.T5 := by kernel_rfl
theorem spec_Inside.bits5 : waitsOk spec_Inside.T5.2 spec_Inside.B5 = true := by kernel_rfl
def spec_Inside.T6 : Bool × List (List Nat × List Nat) := (true, [([], []), ([0], [0]), ([], []), ([1, 2], [1, 2]), ([3], [3]), ([], []), ([4, 5], [4, 5]), ([], []), ([7], [7]), ([], []), ([9], [9]), ([8, 10], [8, 10]), ([11], [11]), ([], []), ([13], [13]), ([], []), ([14, 15], [14, 15]), ([16], [16]), ([12, 17], [12, 17]), ([], []), ([18, 19], [18, 19]), ([6, 20], [6, 20]), ([21, 0, 1, 2, 3, 4, 5, 6, 7, 8, 9, 10, 11, 12, 13, 14, 15, 16, 17, 18, 19, 20, 21], [21])])
def spec_Inside.B6 : List Nat := [0, 1, 0, 7, 15, 0, 63, 0, 128, 0, 512, 1920, 3968, 0, 8192, 0, 57344, 122880, 262016, 0, 1048448, 2097151, 4194303]
theorem spec_Inside.tab6 : rtab .any (opsOf Try.f33 6) = spec_Inside.T6 := by kernel_rfl
theorem spec_Inside.bits6 : waitsOk spec_Inside.T6.2 spec_Inside.B6 = true := by kernel_rfl
set_option maxHeartbeats 8000000 in
set_option maxRecDepth 100000 in
theorem spec_Inside.calls (k : Nat) (A0_0 : Option Addr) (c0_0 : Nat) (l0_0 : List Int) (A0_1 : Option Addr) (c0_1 : Nat) (l0_1 : List Int) (A0_2 : Option Addr) (c0_2 : Nat) (l0_2 : List Int) (a1_0 : Int) (a1_1 : Int) (r : Bool) (w : World) (hr0_0 : Kd.C (Kd.int .i64) w A0_0 l0_0.length l0_0) (hc0_0 : l0_0.length ≤ c0_0) (hr0_1 : Kd.C (Kd.int .i64) w A0_1 l0_1.length l0_1) (hc0_1 : l0_1.length ≤ c0_1) (hr0_2 : Kd.C (Kd.int .i64) w A0_2 l0_2.length l0_2) (hc0_2 : l0_2.length ≤ c0_2) (h : spec_Inside.f k l0_0 l0_1 l0_2 a1_0 a1_1 = some r) :
  Calls Try.prog 33 #[.agg #[.slice A0_0 l0_0.length c0_0, .slice A0_1 l0_1.length c0_1, .slice A0_2 l0_2.length c0_2], .agg #[.int .i64 a1_0, .int .i64 a1_1]] w fun e w' => e = .returned (.bool r) ∧ Below w.heap.size w w' := by
 have hu33 := Try.underlying33
 have hu35 := Try.underlying35
 have HR0_0 := mk_ hr0_0; have HC0_0 := mk_ hc0_0; clear hr0_0 hc0_0; have HR0_1 := mk_ hr0_1; have HC0_1 := mk_ hc0_1; clear hr0_1 hc0_1; have HR0_2 := mk_ hr0_2; have HC0_2 := mk_ hc0_2; clear hr0_2 hc0_2; have HB := mk_ (Below.refl w.heap.size w)
 have H : ((spec_EnvelopeOk.f k l0_0 l0_1 l0_2).bind fun t146 => (if t146 = true then (if a1_0 < 1 then (spec_Inside.j0 k true l0_0 l0_1 l0_2 a1_0 a1_1) else (if 0 < (l0_0.length : Int) then (if 0 ≤ (wrap64 ((l0_0.length : Int) - 1)) then (if (wrap64 ((l0_0.length : Int) - 1)) < (l0_0.length : Int) then ((spec_l1In.f a1_0 (rd l0_0 0) (rd l0_0 (wrap64 ((l0_0.length : Int) - 1)))).bind fun t149 => (if t149 = true then ((spec_l1In.f a1_1 (-1000000000) 1000000000).bind fun t150 => (spec_Inside.j0 k (!t150) l0_0 l0_1 l0_2 a1_0 a1_1)) else (spec_Inside.j0 k true l0_0 l0_1 l0_2 a1_0 a1_1))) else (none)) else (none)) else (none))) else (spec_Inside.j0 k true l0_0 l0_1 l0_2 a1_0 a1_1))) = some r := h
 clear h; have HC3 := mk_ H; clear H
 go_enter Try.func33, Try.ntmps33
 go_upto_region 1 with (first | ((with_reducible refine gd_ 2 rfl ?_); (try (refine gate_guard (by rfl) ?_; dsimp only)); refine box_event ?hg (N := 2) ?hd (cs := #[.slice A0_0 l0_0.length c0_0, .slice A0_1 l0_1.length c0_1, .slice A0_2 l0_2.length c0_2]) (t := 33) ?hr ?_; (case hd => rfl); (case hg => rfl); (case hr => exact hr_); intro gb144 hg w4 hbox hb; have BK144 := mk_ (hbox); have GW144 := gb_ hg HB; replace HB := bp_ HB hb; have GE144 := GW144; clear hb hbox hg) | ((with_reducible refine gd_ 3 rfl ?_); (try (refine gate_guard (by rfl) ?_; dsimp only)); refine box_event ?hg (N := 3) ?hd (cs := #[.int .i64 a1_0, .int .i64 a1_1]) (t := 35) ?hr ?_; (case hd => rfl); (case hg => rfl); (case hr => exact hr_); intro gb145 hg w5 hbox hb; have BK145 := mk_ (hbox); have GW145 := gb_ hg HB; replace HB := bp_ HB hb; have GE145 := GW145; have NB144_145 := nb_ hg BK144; replace BK144 := bl_ BK144 hb; have NB145_144 := ns_ NB144_145; clear hb hbox hg))
 (try simp only [Act.put, List.setIfInBounds_toArray, List.set_cons_zero, List.set_cons_succ])
 go_cut [41] (fun v41 wc => ∃ (kq : Nat) (x41_2 : Bool), v41 = .bool x41_2 ∧ Aside0 (spec_Inside.j0 kq x41_2 l0_0 l0_1 l0_2 a1_0 a1_1 = some r) ∧ Aside0 (kq ≤ k) ∧ Aside0 (wc.heap[gb144]? = some (.cells #[(.slice A0_0 l0_0.length c0_0), (.slice A0_1 l0_1.length c0_1), (.slice A0_2 l0_2.length c0_2)] 33 (0, 0))) ∧ Aside0 (wc.heap[gb145]? = some (.cells #[.int .i64 a1_0, .int .i64 a1_1] 35 (0, 0))) ∧ Aside0 (Below w.heap.size w wc))
 case first =>
  have H := HC3.out; clear HC3; replace H := Option.bind_eq_some_iff.mp H; obtain ⟨t146, A60, H⟩ := H; (try dsimp only at H); have A6 := mk_ A60; clear A60; by_cases c7 : t146 = true
  ·subst c7; rw [if_pos rfl] at H
   by_cases c8 : a1_0 < 1
   ·rw [if_pos c8] at H; have c8b0 : decide (a1_0 < 1) = true := decide_eq_true c8; clear c8
    (first | rw [c8b0] | (simp only [i64_w, i32_w]; rw [c8b0]) | skip)
    have H' := mk_ H
    clear H
    try go_wp2
    replace BK144 := dB_ BK144; replace BK145 := dB_ BK145; replace HB := dH_ HB
    refine start_ (n := 32) (S := fun w' => w'.cell? ⟨gb144, 0, none⟩ = some (.slice A0_0 l0_0.length c0_0) ∧ w'.cell? ⟨gb144, 1, none⟩ = some (.slice A0_1 l0_1.length c0_1) ∧ w'.cell? ⟨gb144, 2, none⟩ = some (.slice A0_2 l0_2.length c0_2) ∧ w'.cell? ⟨gb145, 0, none⟩ = some (.int .i64 a1_0) ∧ w'.cell? ⟨gb145, 1, none⟩ = some (.int .i64 a1_1)) (ds := []) (bs_ 32 0) (by kernel_rfl) rfl (by kernel_rfl) ⟨bc0_ BK144, bc1_ BK144, bc2_ BK144, bc0_ BK145, bc1_ BK145⟩ (fun hHeld => ?_); refine with_tabW spec_Inside.tab1 spec_Inside.bits1 (fun HT_ HW_ => ?_)
    generalize w5.drew = w9 at BK144 BK145 HB hHeld ⊢
    refine tk_ HT_ HW_ 0 10 (bs_ 32 1) hHeld ?_
    refine one_ (i := 1) (N := some 11) (bs_ 32 3) rfl rfl (one_of HT_.out (by kernel_rfl)) (by decide) (fun K hK => ?_)
    refine gs_ Try.func53 #[.agg #[.slice A0_0 l0_0.length c0_0, .slice A0_1 l0_1.length c0_1, .slice A0_2 l0_2.length c0_2]] ?_
    with_reducible refine (spec_EnvelopeOk.calls k _ _ l0_0 _ _ l0_1 _ _ l0_2 true _ ?side1 ?side2 ?side3 ?side4 ?side5 ?side6 A6.out).mono ?_
    (case side1 => exact cw_ (Kd.C_below HR0_0.out HB.out))
    (case side2 => exact HC0_0.out)
    (case side3 => exact cw_ (Kd.C_below HR0_1.out HB.out))
    (case side4 => exact HC0_1.out)
    (case side5 => exact cw_ (Kd.C_below HR0_2.out HB.out))
    (case side6 => exact HC0_2.out)
    rintro e w10 ⟨rfl, hb⟩
    refine ⟨_, rfl, ?_⟩
    replace BK144 := bk_ BK144 hb; replace BK145 := bk_ BK145 hb; replace HB := hk_ HB hb
    (try clear hb); (try clear hb2); (try clear hk); (try clear hi)
    refine hK.out _ _ ⟨bc0_ BK144, bc1_ BK144, bc2_ BK144, bc0_ BK145, bc1_ BK145⟩ (fun hHeld => ?_)
    clear hK K; refine nm_ ?_; refine pu_ HT_ 2 12 (bs_ 32 7) ?_; refine pu_ HT_ 3 13 (bs_ 32 15) ?_; refine pu_ HT_ 4 14 (bs_ 32 31) ?_; refine tk_ HT_ HW_ 5 15 (bs_ 32 63) hHeld ?_; refine pu_ HT_ 6 16 (bs_ 32 127) ?_; refine pu_ HT_ 7 17 (bs_ 32 255) ?_; refine pu_ HT_ 8 18 (bs_ 32 511) ?_; refine pn_ HT_ 9 19 (bs_ 32 1023) ?_; refine pn_ HT_ 10 20 (bs_ 32 2047) ?_; refine pn_ HT_ 11 21 (bs_ 32 4095) ?_; refine pn_ HT_ 12 22 (bs_ 32 8191) ?_; refine pn_ HT_ 13 23 (bs_ 32 16383) ?_; refine pn_ HT_ 14 24 (bs_ 32 32767) ?_; refine pn_ HT_ 15 25 (bs_ 32 65535) ?_; refine pn_ HT_ 16 26 (bs_ 32 131071) ?_; refine pn_ HT_ 17 27 (bs_ 32 262143) ?_; refine pn_ HT_ 18 28 (bs_ 32 524287) ?_; refine pn_ HT_ 19 29 (bs_ 32 1048575) ?_; refine pn_ HT_ 20 30 (bs_ 32 2097151) ?_; refine pn_ HT_ 21 31 (bs_ 32 4194303) ?_; refine pn_ HT_ 22 32 (bs_ 32 8388607) ?_; refine pn_ HT_ 23 33 (bs_ 32 16777215) ?_; refine pn_ HT_ 24 34 (bs_ 32 33554431) ?_; refine pu_ HT_ 25 35 (bs_ 32 67108863) ?_; refine pu_ HT_ 26 36 (bs_ 32 134217727) ?_; refine pn_ HT_ 27 37 (bs_ 32 268435455) ?_; refine pn_ HT_ 28 38 (bs_ 32 536870911) ?_; refine pn_ HT_ 29 39 (bs_ 32 1073741823) ?_; refine pn_ HT_ 30 40 (bs_ 32 2147483647) ?_; refine pu_ HT_ 31 41 (bs_ 32 4294967295) ?_
    refine done_ (done_of HT_.out (by kernel_rfl)) ?_
    try go_wp2
    go_meet
    case rel => exact ⟨_, (true), rf_, H', ⟨by first | omega | exact Nat.le_refl _⟩, bw_ BK144, bw_ BK145, ⟨hw_ HB⟩⟩
   ·rw [if_neg c8] at H; have c8b0 : decide (a1_0 < 1) = false := decide_eq_false c8; clear c8
    (first | rw [c8b0] | (simp only [i64_w, i32_w]; rw [c8b0]) | skip)
    by_cases c11 : 0 < (l0_0.length : Int)
    ·rw [if_pos c11] at H; have c11b0 : decide (0 < (l0_0.length : Int)) = true := decide_eq_true c11; have c11b1 : decide (0 < l0_0.length) = true := decide_eq_true (by omega); clear c11
     obtain ⟨ji12, hji12⟩ : ∃ j_ : Int, (wrap64 ((l0_0.length : Int) - 1)) = j_ := ⟨_, rfl⟩
     replace H : (if 0 ≤ (ji12) then (if (ji12) < (l0_0.length : Int) then ((spec_l1In.f a1_0 (rd l0_0 0) (rd l0_0 (ji12))).bind fun t149 => (if t149 = true then ((spec_l1In.f a1_1 (-1000000000) 1000000000).bind fun t150 => (spec_Inside.j0 k (!t150) l0_0 l0_1 l0_2 a1_0 a1_1)) else (spec_Inside.j0 k true l0_0 l0_1 l0_2 a1_0 a1_1))) else (none)) else (none)) = some r := by first | (rw [hji12] at H; exact H) | (simp only [hji12] at H ⊢; exact H)
     (try rw [hji12] at A6)
     have hji12w : (IntKind.i64.wrap ((l0_0.length : Int) - 1)) = ji12 := (i64_w _).trans hji12
     by_cases c13 : 0 ≤ (ji12)
     ·rw [if_pos c13] at H; have c13b0 : decide (0 ≤ (ji12)) = true := decide_eq_true c13; clear c13; by_cases c14 : (ji12) < (l0_0.length : Int)
      ·rw [if_pos c14] at H; have c14b0 : decide ((ji12) < (l0_0.length : Int)) = true := decide_eq_true c14; clear c14; replace H := Option.bind_eq_some_iff.mp H; obtain ⟨t149, A150, H⟩ := H; (try dsimp only at H); have A15 := mk_ A150; clear A150; by_cases c16 : t149 = true
       ·subst c16; rw [if_pos rfl] at H
        replace H := Option.bind_eq_some_iff.mp H; obtain ⟨t150, A170, H⟩ := H
        (try dsimp only at H); have A17 := mk_ A170; clear A170
        have H' := mk_ H
        clear H
        try go_wp2
        replace BK144 := dB_ BK144; replace BK145 := dB_ BK145; replace HB := dH_ HB
        have p147 : 0 ≤ (0 : Int) := (by omega)
        have q147 : 0 < (l0_0.length : Int) := od_
        obtain ⟨ad147, e147, hx147_0⟩ := Kd.at_int HR0_0.out 0 p147 q147
        have hw147_0 := hx147_0
        (try rw [show ((0 : Int)).toNat = 0 from rfl] at hw147_0)
        (try rw [show 0 * 1 = 0 from rfl] at hw147_0)
        (try rw [Addr.add_zero'] at hw147_0)
        cases e147
        have qi147 : (0 < l0_0.length) = True := eq_true (by omega)
        (try rw [show ((0 : Int)).toNat = 0 from rfl] at hx147_0)
        (try rw [Addr.add_zero'] at hx147_0)
        replace hx147_0 := (HB.out.cell (World.block_lt_of_cell? w _ hx147_0)).trans hx147_0
        replace p147 := eq_true p147; replace q147 := eq_true q147
        have p148 : 0 ≤ ((ji12) : Int) := od_
        have q148 : (ji12) < (l0_0.length : Int) := od_
        obtain ⟨ad148, e148, hx148_0⟩ := Kd.at_int HR0_0.out (ji12) p148 q148
        have hw148_0 := hx148_0
        obtain rfl : ad147 = ad148 := (by injection e148)
        replace hx148_0 := (HB.out.cell (World.block_lt_of_cell? w _ hx148_0)).trans hx148_0
        replace p148 := eq_true p148; replace q148 := eq_true q148
        refine start_ (n := 32) (S := fun w' => w'.cell? ⟨gb144, 0, none⟩ = some (.slice (some ad147) l0_0.length c0_0) ∧ w'.cell? ⟨gb144, 1, none⟩ = some (.slice A0_1 l0_1.length c0_1) ∧ w'.cell? ⟨gb144, 2, none⟩ = some (.slice A0_2 l0_2.length c0_2) ∧ w'.cell? ⟨gb145, 0, none⟩ = some (.int .i64 a1_0) ∧ w'.cell? ⟨gb145, 1, none⟩ = some (.int .i64 a1_1) ∧ w'.cell? ad147 = some (.int .i64 (rd l0_0 0)) ∧ w'.cell? (ad147.add ((ji12)).toNat) = some (.int .i64 (rd l0_0 (ji12)))) (ds := []) (bs_ 32 0) (by kernel_rfl) rfl (by kernel_rfl) ⟨bc0_ BK144, bc1_ BK144, bc2_ BK144, bc0_ BK145, bc1_ BK145, ((HB.out.cell (World.block_lt_of_cell? w _ hw147_0)).trans hw147_0), ((HB.out.cell (World.block_lt_of_cell? w _ hw148_0)).trans hw148_0)⟩ (fun hHeld => ?_); refine with_tabW spec_Inside.tab1 spec_Inside.bits1 (fun HT_ HW_ => ?_)
        generalize w5.drew = w18 at BK144 BK145 HB hx147_0 hx148_0 hHeld ⊢
        refine tk_ HT_ HW_ 0 10 (bs_ 32 1) hHeld ?_
        refine one_ (i := 1) (N := some 11) (bs_ 32 3) rfl rfl (one_of HT_.out (by kernel_rfl)) (by decide) (fun K hK => ?_)
        refine gs_ Try.func53 #[.agg #[.slice (some ad147) l0_0.length c0_0, .slice A0_1 l0_1.length c0_1, .slice A0_2 l0_2.length c0_2]] ?_
        with_reducible refine (spec_EnvelopeOk.calls k _ _ l0_0 _ _ l0_1 _ _ l0_2 true _ ?side1 ?side2 ?side3 ?side4 ?side5 ?side6 A6.out).mono ?_
        (case side1 => exact cw_ (Kd.C_below HR0_0.out HB.out))
        (case side2 => exact HC0_0.out)
        (case side3 => exact cw_ (Kd.C_below HR0_1.out HB.out))
        (case side4 => exact HC0_1.out)
        (case side5 => exact cw_ (Kd.C_below HR0_2.out HB.out))
        (case side6 => exact HC0_2.out)
        rintro e w19 ⟨rfl, hb⟩
        refine ⟨_, rfl, ?_⟩
        replace BK144 := bk_ BK144 hb; replace BK145 := bk_ BK145 hb; replace HB := hk_ HB hb
        (try clear hb); (try clear hb2); (try clear hk); (try clear hi)
        refine hK.out _ _ ⟨bc0_ BK144, bc1_ BK144, bc2_ BK144, bc0_ BK145, bc1_ BK145, ((HB.out.cell (World.block_lt_of_cell? w _ hw147_0)).trans hw147_0), ((HB.out.cell (World.block_lt_of_cell? w _ hw148_0)).trans hw148_0)⟩ (fun hHeld => ?_)
        clear hK K; refine nm_ ?_; refine pu_ HT_ 2 12 (bs_ 32 7) ?_; refine pu_ HT_ 3 13 (bs_ 32 15) ?_; refine pu_ HT_ 4 14 (bs_ 32 31) ?_; refine tk_ HT_ HW_ 5 15 (bs_ 32 63) hHeld ?_; refine pu_ HT_ 6 16 (bs_ 32 127) ?_; refine pu_ HT_ 7 17 (bs_ 32 255) ?_; refine pu_ HT_ 8 18 (bs_ 32 511) ?_; refine pu_ HT_ 9 19 (bs_ 32 1023) ?_; refine pu_ HT_ 11 21 (bs_ 32 3071) ?_; refine pu_ HT_ 15 25 (bs_ 32 35839) ?_; refine pu_ HT_ 17 27 (bs_ 32 166911) ?_; refine tk_ HT_ HW_ 10 20 (bs_ 32 167935) hHeld ?_; refine tk_ HT_ HW_ 12 22 (bs_ 32 172031) hHeld ?_; refine pu_ HT_ 13 23 (bs_ 32 180223) ?_; refine tk_ HT_ HW_ 14 24 (bs_ 32 196607) hHeld ?_; refine tk_ HT_ HW_ 16 26 (bs_ 32 262143) hHeld ?_; refine tk_ HT_ HW_ 18 28 (bs_ 32 524287) hHeld ?_; refine pu_ HT_ 19 29 (bs_ 32 1048575) ?_; refine pu_ HT_ 20 30 (bs_ 32 2097151) ?_; refine pu_ HT_ 21 31 (bs_ 32 4194303) ?_; refine tk_ HT_ HW_ 22 32 (bs_ 32 8388607) hHeld ?_
        refine one_ (i := 23) (N := some 33) (bs_ 32 16777215) rfl rfl (one_of HT_.out (by kernel_rfl)) (by decide) (fun K hK => ?_)
        refine goes_ Try.func46 (by kernel_rfl) rfl #[.int .i64 a1_0, .int .i64 (rd l0_0 0), .int .i64 (rd l0_0 (ji12))] (by rfl) rfl rfl (by (try simp only [List.map_toArray, List.map_cons, List.map_nil]); first | done | (simp only [hji12]; rfl) | rfl | (simp only [List.length_drop, List.length_take]; rfl)) ?_
        with_reducible refine (spec_l1In.calls a1_0 (rd l0_0 0) (rd l0_0 (ji12)) true _ A15.out).mono ?_
        rintro e w' ⟨rfl, ⟨nd, rfl⟩⟩
        refine ⟨_, rfl, ?_⟩
        refine hK.out _ _ ⟨bc0_ BK144, bc1_ BK144, bc2_ BK144, bc0_ BK145, bc1_ BK145, ((HB.out.cell (World.block_lt_of_cell? w _ hw147_0)).trans hw147_0), ((HB.out.cell (World.block_lt_of_cell? w _ hw148_0)).trans hw148_0)⟩ (fun hHeld => ?_)
        clear hK K; refine nm_ ?_; refine pu_ HT_ 24 34 (bs_ 32 33554431) ?_; refine pu_ HT_ 25 35 (bs_ 32 67108863) ?_; refine pu_ HT_ 26 36 (bs_ 32 134217727) ?_; refine pu_ HT_ 27 37 (bs_ 32 268435455) ?_; refine tk_ HT_ HW_ 28 38 (bs_ 32 536870911) hHeld ?_
        refine one_ (i := 29) (N := some 39) (bs_ 32 1073741823) rfl rfl (one_of HT_.out (by kernel_rfl)) (by decide) (fun K hK => ?_)
        refine gs_ Try.func46 #[.int .i64 a1_1, .int .i64 (-1000000000), .int .i64 1000000000] ?_
        with_reducible refine (spec_l1In.calls a1_1 (-1000000000) 1000000000 t150 _ A17.out).mono ?_
        rintro e w' ⟨rfl, ⟨nd, rfl⟩⟩
        refine ⟨_, rfl, ?_⟩
        refine hK.out _ _ ⟨bc0_ BK144, bc1_ BK144, bc2_ BK144, bc0_ BK145, bc1_ BK145, ((HB.out.cell (World.block_lt_of_cell? w _ hw147_0)).trans hw147_0), ((HB.out.cell (World.block_lt_of_cell? w _ hw148_0)).trans hw148_0)⟩ (fun hHeld => ?_)
        clear hK K; refine nm_ ?_; refine pu_ HT_ 30 40 (bs_ 32 2147483647) ?_; refine pu_ HT_ 31 41 (bs_ 32 4294967295) ?_
        refine done_ (done_of HT_.out (by kernel_rfl)) ?_
        try go_wp2
        go_meet
        case rel => exact ⟨_, (!t150), rf_, H', ⟨by first | omega | exact Nat.le_refl _⟩, bw_ BK144, bw_ BK145, ⟨hw_ HB⟩⟩
       ·replace c16 := Bool.eq_false_iff.mpr c16; subst c16; rw [if_neg (show ¬ (false = true) by decide)] at H
        have H' := mk_ H
        clear H
        try go_wp2
        replace BK144 := dB_ BK144; replace BK145 := dB_ BK145; replace HB := dH_ HB
        have p147 : 0 ≤ (0 : Int) := (by omega)
        have q147 : 0 < (l0_0.length : Int) := od_
        obtain ⟨ad147, e147, hx147_0⟩ := Kd.at_int HR0_0.out 0 p147 q147
        have hw147_0 := hx147_0
        (try rw [show ((0 : Int)).toNat = 0 from rfl] at hw147_0)
        (try rw [show 0 * 1 = 0 from rfl] at hw147_0)
        (try rw [Addr.add_zero'] at hw147_0)
        cases e147
        have qi147 : (0 < l0_0.length) = True := eq_true (by omega)
        (try rw [show ((0 : Int)).toNat = 0 from rfl] at hx147_0)
        (try rw [Addr.add_zero'] at hx147_0)
        replace hx147_0 := (HB.out.cell (World.block_lt_of_cell? w _ hx147_0)).trans hx147_0
        replace p147 := eq_true p147; replace q147 := eq_true q147
        have p148 : 0 ≤ ((ji12) : Int) := od_
        have q148 : (ji12) < (l0_0.length : Int) := od_
        obtain ⟨ad148, e148, hx148_0⟩ := Kd.at_int HR0_0.out (ji12) p148 q148
        have hw148_0 := hx148_0
        obtain rfl : ad147 = ad148 := (by injection e148)
        replace hx148_0 := (HB.out.cell (World.block_lt_of_cell? w _ hx148_0)).trans hx148_0
        replace p148 := eq_true p148; replace q148 := eq_true q148
        refine start_ (n := 32) (S := fun w' => w'.cell? ⟨gb144, 0, none⟩ = some (.slice (some ad147) l0_0.length c0_0) ∧ w'.cell? ⟨gb144, 1, none⟩ = some (.slice A0_1 l0_1.length c0_1) ∧ w'.cell? ⟨gb144, 2, none⟩ = some (.slice A0_2 l0_2.length c0_2) ∧ w'.cell? ⟨gb145, 0, none⟩ = some (.int .i64 a1_0) ∧ w'.cell? ⟨gb145, 1, none⟩ = some (.int .i64 a1_1) ∧ w'.cell? ad147 = some (.int .i64 (rd l0_0 0)) ∧ w'.cell? (ad147.add ((ji12)).toNat) = some (.int .i64 (rd l0_0 (ji12)))) (ds := []) (bs_ 32 0) (by kernel_rfl) rfl (by kernel_rfl) ⟨bc0_ BK144, bc1_ BK144, bc2_ BK144, bc0_ BK145, bc1_ BK145, ((HB.out.cell (World.block_lt_of_cell? w _ hw147_0)).trans hw147_0), ((HB.out.cell (World.block_lt_of_cell? w _ hw148_0)).trans hw148_0)⟩ (fun hHeld => ?_); refine with_tabW spec_Inside.tab1 spec_Inside.bits1 (fun HT_ HW_ => ?_)
        generalize w5.drew = w20 at BK144 BK145 HB hx147_0 hx148_0 hHeld ⊢
        refine tk_ HT_ HW_ 0 10 (bs_ 32 1) hHeld ?_
        refine one_ (i := 1) (N := some 11) (bs_ 32 3) rfl rfl (one_of HT_.out (by kernel_rfl)) (by decide) (fun K hK => ?_)
        refine gs_ Try.func53 #[.agg #[.slice (some ad147) l0_0.length c0_0, .slice A0_1 l0_1.length c0_1, .slice A0_2 l0_2.length c0_2]] ?_
        with_reducible refine (spec_EnvelopeOk.calls k _ _ l0_0 _ _ l0_1 _ _ l0_2 true _ ?side1 ?side2 ?side3 ?side4 ?side5 ?side6 A6.out).mono ?_
        (case side1 => exact cw_ (Kd.C_below HR0_0.out HB.out))
        (case side2 => exact HC0_0.out)
        (case side3 => exact cw_ (Kd.C_below HR0_1.out HB.out))
        (case side4 => exact HC0_1.out)
        (case side5 => exact cw_ (Kd.C_below HR0_2.out HB.out))
        (case side6 => exact HC0_2.out)
        rintro e w21 ⟨rfl, hb⟩
        refine ⟨_, rfl, ?_⟩
        replace BK144 := bk_ BK144 hb; replace BK145 := bk_ BK145 hb; replace HB := hk_ HB hb
        (try clear hb); (try clear hb2); (try clear hk); (try clear hi)
        refine hK.out _ _ ⟨bc0_ BK144, bc1_ BK144, bc2_ BK144, bc0_ BK145, bc1_ BK145, ((HB.out.cell (World.block_lt_of_cell? w _ hw147_0)).trans hw147_0), ((HB.out.cell (World.block_lt_of_cell? w _ hw148_0)).trans hw148_0)⟩ (fun hHeld => ?_)
        clear hK K; refine nm_ ?_; refine pu_ HT_ 2 12 (bs_ 32 7) ?_; refine pu_ HT_ 3 13 (bs_ 32 15) ?_; refine pu_ HT_ 4 14 (bs_ 32 31) ?_; refine tk_ HT_ HW_ 5 15 (bs_ 32 63) hHeld ?_; refine pu_ HT_ 6 16 (bs_ 32 127) ?_; refine pu_ HT_ 7 17 (bs_ 32 255) ?_; refine pu_ HT_ 8 18 (bs_ 32 511) ?_; refine pu_ HT_ 9 19 (bs_ 32 1023) ?_; refine pu_ HT_ 11 21 (bs_ 32 3071) ?_; refine pu_ HT_ 15 25 (bs_ 32 35839) ?_; refine pu_ HT_ 17 27 (bs_ 32 166911) ?_; refine tk_ HT_ HW_ 10 20 (bs_ 32 167935) hHeld ?_; refine tk_ HT_ HW_ 12 22 (bs_ 32 172031) hHeld ?_; refine pu_ HT_ 13 23 (bs_ 32 180223) ?_; refine tk_ HT_ HW_ 14 24 (bs_ 32 196607) hHeld ?_; refine tk_ HT_ HW_ 16 26 (bs_ 32 262143) hHeld ?_; refine tk_ HT_ HW_ 18 28 (bs_ 32 524287) hHeld ?_; refine pu_ HT_ 19 29 (bs_ 32 1048575) ?_; refine pu_ HT_ 20 30 (bs_ 32 2097151) ?_; refine pu_ HT_ 21 31 (bs_ 32 4194303) ?_; refine tk_ HT_ HW_ 22 32 (bs_ 32 8388607) hHeld ?_
        refine one_ (i := 23) (N := some 33) (bs_ 32 16777215) rfl rfl (one_of HT_.out (by kernel_rfl)) (by decide) (fun K hK => ?_)
        refine goes_ Try.func46 (by kernel_rfl) rfl #[.int .i64 a1_0, .int .i64 (rd l0_0 0), .int .i64 (rd l0_0 (ji12))] (by rfl) rfl rfl (by (try simp only [List.map_toArray, List.map_cons, List.map_nil]); first | done | (simp only [hji12]; rfl) | rfl | (simp only [List.length_drop, List.length_take]; rfl)) ?_
        with_reducible refine (spec_l1In.calls a1_0 (rd l0_0 0) (rd l0_0 (ji12)) false _ A15.out).mono ?_
        rintro e w' ⟨rfl, ⟨nd, rfl⟩⟩
        refine ⟨_, rfl, ?_⟩
        refine hK.out _ _ ⟨bc0_ BK144, bc1_ BK144, bc2_ BK144, bc0_ BK145, bc1_ BK145, ((HB.out.cell (World.block_lt_of_cell? w _ hw147_0)).trans hw147_0), ((HB.out.cell (World.block_lt_of_cell? w _ hw148_0)).trans hw148_0)⟩ (fun hHeld => ?_)
        clear hK K; refine nm_ ?_; refine pu_ HT_ 24 34 (bs_ 32 33554431) ?_; refine pu_ HT_ 25 35 (bs_ 32 67108863) ?_; refine pu_ HT_ 26 36 (bs_ 32 134217727) ?_; refine pn_ HT_ 27 37 (bs_ 32 268435455) ?_; refine pn_ HT_ 28 38 (bs_ 32 536870911) ?_; refine pn_ HT_ 29 39 (bs_ 32 1073741823) ?_; refine pn_ HT_ 30 40 (bs_ 32 2147483647) ?_; refine pu_ HT_ 31 41 (bs_ 32 4294967295) ?_
        refine done_ (done_of HT_.out (by kernel_rfl)) ?_
        try go_wp2
        go_meet
        case rel => exact ⟨_, (true), rf_, H', ⟨by first | omega | exact Nat.le_refl _⟩, bw_ BK144, bw_ BK145, ⟨hw_ HB⟩⟩
      ·rw [if_neg c14] at H
       exact absurd H (by simp)
     ·rw [if_neg c13] at H
      exact absurd H (by simp)
    ·rw [if_neg c11] at H
     exact absurd H (by simp)
  ·replace c7 := Bool.eq_false_iff.mpr c7; subst c7; rw [if_neg (show ¬ (false = true) by decide)] at H
   have H' := mk_ H
   clear H
   try go_wp2
   replace BK144 := dB_ BK144; replace BK145 := dB_ BK145; replace HB := dH_ HB
   refine start_ (n := 32) (S := fun w' => w'.cell? ⟨gb144, 0, none⟩ = some (.slice A0_0 l0_0.length c0_0) ∧ w'.cell? ⟨gb144, 1, none⟩ = some (.slice A0_1 l0_1.length c0_1) ∧ w'.cell? ⟨gb144, 2, none⟩ = some (.slice A0_2 l0_2.length c0_2)) (ds := []) (bs_ 32 0) (by kernel_rfl) rfl (by kernel_rfl) ⟨bc0_ BK144, bc1_ BK144, bc2_ BK144⟩ (fun hHeld => ?_); refine with_tabW spec_Inside.tab1 spec_Inside.bits1 (fun HT_ HW_ => ?_)
   generalize w5.drew = w22 at BK144 BK145 HB hHeld ⊢
   refine tk_ HT_ HW_ 0 10 (bs_ 32 1) hHeld ?_
   refine one_ (i := 1) (N := some 11) (bs_ 32 3) rfl rfl (one_of HT_.out (by kernel_rfl)) (by decide) (fun K hK => ?_)
   refine gs_ Try.func53 #[.agg #[.slice A0_0 l0_0.length c0_0, .slice A0_1 l0_1.length c0_1, .slice A0_2 l0_2.length c0_2]] ?_
   with_reducible refine (spec_EnvelopeOk.calls k _ _ l0_0 _ _ l0_1 _ _ l0_2 false _ ?side1 ?side2 ?side3 ?side4 ?side5 ?side6 A6.out).mono ?_
   (case side1 => exact cw_ (Kd.C_below HR0_0.out HB.out))
   (case side2 => exact HC0_0.out)
   (case side3 => exact cw_ (Kd.C_below HR0_1.out HB.out))
   (case side4 => exact HC0_1.out)
   (case side5 => exact cw_ (Kd.C_below HR0_2.out HB.out))
   (case side6 => exact HC0_2.out)
   rintro e w23 ⟨rfl, hb⟩
   refine ⟨_, rfl, ?_⟩
   replace BK144 := bk_ BK144 hb; replace BK145 := bk_ BK145 hb; replace HB := hk_ HB hb
   (try clear hb); (try clear hb2); (try clear hk); (try clear hi)
   refine hK.out _ _ ⟨bc0_ BK144, bc1_ BK144, bc2_ BK144⟩ (fun hHeld => ?_)
   clear hK K; refine nm_ ?_; refine pu_ HT_ 2 12 (bs_ 32 7) ?_; refine pu_ HT_ 3 13 (bs_ 32 15) ?_; refine pn_ HT_ 4 14 (bs_ 32 31) ?_; refine pn_ HT_ 5 15 (bs_ 32 63) ?_; refine pn_ HT_ 6 16 (bs_ 32 127) ?_; refine pu_ HT_ 7 17 (bs_ 32 255) ?_; refine pu_ HT_ 8 18 (bs_ 32 511) ?_; refine pn_ HT_ 9 19 (bs_ 32 1023) ?_; refine pn_ HT_ 10 20 (bs_ 32 2047) ?_; refine pn_ HT_ 11 21 (bs_ 32 4095) ?_; refine pn_ HT_ 12 22 (bs_ 32 8191) ?_; refine pn_ HT_ 13 23 (bs_ 32 16383) ?_; refine pn_ HT_ 14 24 (bs_ 32 32767) ?_; refine pn_ HT_ 15 25 (bs_ 32 65535) ?_; refine pn_ HT_ 16 26 (bs_ 32 131071) ?_; refine pn_ HT_ 17 27 (bs_ 32 262143) ?_; refine pn_ HT_ 18 28 (bs_ 32 524287) ?_; refine pn_ HT_ 19 29 (bs_ 32 1048575) ?_; refine pn_ HT_ 20 30 (bs_ 32 2097151) ?_; refine pn_ HT_ 21 31 (bs_ 32 4194303) ?_; refine pn_ HT_ 22 32 (bs_ 32 8388607) ?_; refine pn_ HT_ 23 33 (bs_ 32 16777215) ?_; refine pn_ HT_ 24 34 (bs_ 32 33554431) ?_; refine pu_ HT_ 25 35 (bs_ 32 67108863) ?_; refine pu_ HT_ 26 36 (bs_ 32 134217727) ?_; refine pn_ HT_ 27 37 (bs_ 32 268435455) ?_; refine pn_ HT_ 28 38 (bs_ 32 536870911) ?_; refine pn_ HT_ 29 39 (bs_ 32 1073741823) ?_; refine pn_ HT_ 30 40 (bs_ 32 2147483647) ?_; refine pu_ HT_ 31 41 (bs_ 32 4294967295) ?_
   refine done_ (done_of HT_.out (by kernel_rfl)) ?_
   try go_wp2
   go_meet
   case rel => exact ⟨_, (true), rf_, H', ⟨by first | omega | exact Nat.le_refl _⟩, bw_ BK144, bw_ BK145, ⟨hw_ HB⟩⟩
 case rest =>
  clear HC3
  obtain ⟨kq, x41_2, rfl, HA, HJ2, BK144, BK145, HB⟩ := hcut
  cases kq with
  | zero => exact absurd HA.out (by simp [spec_Inside.j0])
  | succ kj2 =>
   have H := HA.out; clear HA
   simp only [spec_Inside.j0] at H
   by_cases c24 : x41_2 = true
   ·subst c24; rw [if_pos rfl] at H
    obtain rfl := Option.some.inj H; go_wp2
    go_ret
    exact ⟨re_, hw_ HB⟩
   ·replace c24 := Bool.eq_false_iff.mpr c24; subst c24; rw [if_neg (show ¬ (false = true) by decide)] at H; replace H := Option.bind_eq_some_iff.mp H; obtain ⟨t151, A250, H⟩ := H; (try dsimp only at H); have A25 := mk_ A250; clear A250
    obtain ⟨ji26, hji26⟩ : ∃ j_ : Int, (wrap64 (t151 + 1)) = j_ := ⟨_, rfl⟩
    replace H : (if 0 ≤ (ji26) then (if (ji26) < (l0_0.length : Int) then (if 0 ≤ t151 then (if t151 < (l0_0.length : Int) then (if t151 < (l0_1.length : Int) then (if (ji26) < (l0_1.length : Int) then (if t151 < (l0_2.length : Int) then (if (ji26) < (l0_2.length : Int) then (if (wrap64 (a1_1 * (wrap64 ((rd l0_0 (ji26)) - (rd l0_0 t151))))) ≥ (wrap64 ((wrap64 ((wrap64 ((rd l0_1 t151) * (wrap64 ((rd l0_0 (ji26)) - (rd l0_0 t151))))) + (wrap64 ((wrap64 ((rd l0_1 (ji26)) - (rd l0_1 t151))) * (wrap64 (a1_0 - (rd l0_0 t151))))))) * a1_0)) then (some (decide ((wrap64 (a1_1 * (wrap64 ((rd l0_0 (ji26)) - (rd l0_0 t151))))) ≤ (wrap64 ((wrap64 ((wrap64 ((rd l0_2 t151) * (wrap64 ((rd l0_0 (ji26)) - (rd l0_0 t151))))) + (wrap64 ((wrap64 ((rd l0_2 (ji26)) - (rd l0_2 t151))) * (wrap64 (a1_0 - (rd l0_0 t151))))))) * a1_0))))) else (some false)) else (none)) else (none)) else (none)) else (none)) else (none)) else (none)) else (none)) else (none)) = some r := by first | (rw [hji26] at H; exact H) | (simp only [hji26] at H ⊢; exact H)
    (try rw [hji26] at A25)
    have hji26w : (IntKind.i64.wrap (t151 + 1)) = ji26 := (i64_w _).trans hji26
    by_cases c27 : 0 ≤ (ji26)
    ·rw [if_pos c27] at H; have c27b0 : decide (0 ≤ (ji26)) = true := decide_eq_true c27; clear c27; by_cases c28 : (ji26) < (l0_0.length : Int)
     ·rw [if_pos c28] at H; have c28b0 : decide ((ji26) < (l0_0.length : Int)) = true := decide_eq_true c28; clear c28; by_cases c29 : 0 ≤ t151
      ·rw [if_pos c29] at H; have c29b0 : decide (0 ≤ t151) = true := decide_eq_true c29; clear c29; by_cases c30 : t151 < (l0_0.length : Int)
       ·rw [if_pos c30] at H; have c30b0 : decide (t151 < (l0_0.length : Int)) = true := decide_eq_true c30; clear c30; by_cases c31 : t151 < (l0_1.length : Int)
        ·rw [if_pos c31] at H; have c31b0 : decide (t151 < (l0_1.length : Int)) = true := decide_eq_true c31; clear c31; by_cases c32 : (ji26) < (l0_1.length : Int)
         ·rw [if_pos c32] at H; have c32b0 : decide ((ji26) < (l0_1.length : Int)) = true := decide_eq_true c32; clear c32; by_cases c33 : t151 < (l0_2.length : Int)
          ·rw [if_pos c33] at H; have c33b0 : decide (t151 < (l0_2.length : Int)) = true := decide_eq_true c33; clear c33; by_cases c34 : (ji26) < (l0_2.length : Int)
           ·rw [if_pos c34] at H; have c34b0 : decide ((ji26) < (l0_2.length : Int)) = true := decide_eq_true c34; clear c34; by_cases c35 : (wrap64 (a1_1 * (wrap64 ((rd l0_0 (ji26)) - (rd l0_0 t151))))) ≥ (wrap64 ((wrap64 ((wrap64 ((rd l0_1 t151) * (wrap64 ((rd l0_0 (ji26)) - (rd l0_0 t151))))) + (wrap64 ((wrap64 ((rd l0_1 (ji26)) - (rd l0_1 t151))) * (wrap64 (a1_0 - (rd l0_0 t151))))))) * a1_0))
            ·rw [if_pos c35] at H; have c35b0 : decide ((wrap64 ((wrap64 ((wrap64 ((rd l0_1 t151) * (wrap64 ((rd l0_0 (ji26)) - (rd l0_0 t151))))) + (wrap64 ((wrap64 ((rd l0_1 (ji26)) - (rd l0_1 t151))) * (wrap64 (a1_0 - (rd l0_0 t151))))))) * a1_0)) ≤ (wrap64 (a1_1 * (wrap64 ((rd l0_0 (ji26)) - (rd l0_0 t151)))))) = true := decide_eq_true c35; clear c35; obtain rfl := Option.some.inj H; have hnb36 := NB144_145.out; have hnc36 := NB145_144.out; have hcz37_0 := bc0_ BK144; have hcz37_1 := bc1_ BK144; have hcz37_2 := bc2_ BK144; have hfz37_0 := bf_ BK144 0; have hfz37_1 := bf_ BK144 1; have hfz37_2 := bf_ BK144 2; have hcz38_0 := bc0_ BK145; have hcz38_1 := bc1_ BK145; have hfz38_0 := bf_ BK145 0; have hfz38_1 := bf_ BK145 1
             try go_wp2_with (first | ((with_reducible refine gc_ 54 rfl ?_); refine gl_ (some 46) rfl Try.func54 #[.slice A0_0 l0_0.length c0_0, .int .i64 a1_0] ?_; (with_reducible refine (spec_l1Low.calls kj2 _ _ l0_0 a1_0 t151 _ ?side1 ?side2 A25.out).mono ?_); (case side1 => exact cw_ (Kd.C_below HR0_0.out HB.out)); (case side2 => exact HC0_0.out); rintro e w' ⟨rfl, ⟨nd, rfl⟩⟩; refine ⟨_, rfl, ?_⟩))
             (try (rw [drewN_self wc]; generalize hq_ : World.drewN wc _ = wc; have n0_ := qB_ hq_ BK144; have n1_ := qB_ hq_ BK145; have n2_ := qH_ hq_ HB; clear BK144 BK145 HB hq_; have BK144 := n0_; have BK145 := n1_; have HB := n2_; clear n0_ n1_ n2_))
             replace BK144 := dB_ BK144; replace BK145 := dB_ BK145; replace HB := dH_ HB
             have p152 : 0 ≤ ((ji26) : Int) := od_
             have q152 : (ji26) < (l0_0.length : Int) := od_
             obtain ⟨ad152, e152, hx152_0⟩ := Kd.at_int HR0_0.out (ji26) p152 q152
             have hw152_0 := hx152_0
             cases e152
             replace hx152_0 := (HB.out.cell (World.block_lt_of_cell? w _ hx152_0)).trans hx152_0
             replace p152 := eq_true p152; replace q152 := eq_true q152
             have p153 : 0 ≤ (t151 : Int) := od_
             have q153 : t151 < (l0_0.length : Int) := od_
             obtain ⟨ad153, e153, hx153_0⟩ := Kd.at_int HR0_0.out t151 p153 q153
             have hw153_0 := hx153_0
             obtain rfl : ad152 = ad153 := (by injection e153)
             replace hx153_0 := (HB.out.cell (World.block_lt_of_cell? w _ hx153_0)).trans hx153_0
             replace p153 := eq_true p153; replace q153 := eq_true q153
             have p154 : 0 ≤ (t151 : Int) := od_
             have q154 : t151 < (l0_0.length : Int) := od_
             obtain ⟨ad154, e154, hx154_0⟩ := Kd.at_int HR0_0.out t151 p154 q154
             have hw154_0 := hx154_0
             obtain rfl : ad152 = ad154 := (by injection e154)
             replace hx154_0 := (HB.out.cell (World.block_lt_of_cell? w _ hx154_0)).trans hx154_0
             replace p154 := eq_true p154; replace q154 := eq_true q154
             refine start_ (n := 22) (S := fun w' => w'.cell? ⟨gb144, 0, none⟩ = some (.slice (some ad152) l0_0.length c0_0) ∧ w'.cell? ⟨gb144, 1, none⟩ = some (.slice A0_1 l0_1.length c0_1) ∧ w'.cell? ⟨gb144, 2, none⟩ = some (.slice A0_2 l0_2.length c0_2) ∧ w'.cell? ⟨gb145, 0, none⟩ = some (.int .i64 a1_0) ∧ w'.cell? ⟨gb145, 1, none⟩ = some (.int .i64 a1_1) ∧ w'.cell? (ad152.add ((ji26)).toNat) = some (.int .i64 (rd l0_0 (ji26))) ∧ w'.cell? (ad152.add (t151).toNat) = some (.int .i64 (rd l0_0 t151)) ∧ w'.cell? (ad152.add (t151).toNat) = some (.int .i64 (rd l0_0 t151))) (ds := []) (bs_ 22 0) (by kernel_rfl) rfl (by kernel_rfl) ⟨bc0_ BK144, bc1_ BK144, bc2_ BK144, bc0_ BK145, bc1_ BK145, ((HB.out.cell (World.block_lt_of_cell? w _ hw152_0)).trans hw152_0), ((HB.out.cell (World.block_lt_of_cell? w _ hw153_0)).trans hw153_0), ((HB.out.cell (World.block_lt_of_cell? w _ hw154_0)).trans hw154_0)⟩ (fun hHeld => ?_); refine with_tabW spec_Inside.tab4 spec_Inside.bits4 (fun HT_ HW_ => ?_)
             generalize wc.drew = w39 at BK144 BK145 HB hx152_0 hx153_0 hx154_0 hHeld ⊢
             refine pu_ HT_ 0 47 (bs_ 22 1) ?_; refine pu_ HT_ 2 49 (bs_ 22 5) ?_; refine pu_ HT_ 3 50 (bs_ 22 13) ?_; refine pu_ HT_ 6 53 (bs_ 22 77) ?_; refine pu_ HT_ 8 55 (bs_ 22 333) ?_; refine pu_ HT_ 12 59 (bs_ 22 4429) ?_; refine pu_ HT_ 14 61 (bs_ 22 20813) ?_; refine pu_ HT_ 16 63 (bs_ 22 86349) ?_; refine tk_ HT_ HW_ 1 48 (bs_ 22 86351) hHeld ?_; refine pu_ HT_ 4 51 (bs_ 22 86367) ?_; refine tk_ HT_ HW_ 5 52 (bs_ 22 86399) hHeld ?_; refine tk_ HT_ HW_ 7 54 (bs_ 22 86527) hHeld ?_; refine pu_ HT_ 9 56 (bs_ 22 87039) ?_; refine tk_ HT_ HW_ 10 57 (bs_ 22 88063) hHeld ?_; refine pu_ HT_ 11 58 (bs_ 22 90111) ?_; refine pu_ HT_ 20 6 (bs_ 22 1138687) ?_; refine tk_ HT_ HW_ 13 60 (bs_ 22 1146879) hHeld ?_; refine tk_ HT_ HW_ 15 62 (bs_ 22 1179647) hHeld ?_; refine pu_ HT_ 17 64 (bs_ 22 1310719) ?_; refine tk_ HT_ HW_ 18 65 (bs_ 22 1572863) hHeld ?_; refine pu_ HT_ 19 66 (bs_ 22 2097151) ?_; refine pu_ HT_ 21 7 (bs_ 22 4194303) ?_
             refine done_ (done_of HT_.out (by kernel_rfl)) ?_
             try go_wp2
             replace BK144 := dB_ BK144; replace BK145 := dB_ BK145; replace HB := dH_ HB
             have p155 : 0 ≤ (t151 : Int) := od_
             have q155 : t151 < (l0_1.length : Int) := od_
             obtain ⟨ad155, e155, hx155_0⟩ := Kd.at_int HR0_1.out t151 p155 q155
             have hw155_0 := hx155_0
             cases e155
             replace hx155_0 := (HB.out.cell (World.block_lt_of_cell? w _ hx155_0)).trans hx155_0
             replace p155 := eq_true p155; replace q155 := eq_true q155
             have p156 : 0 ≤ ((ji26) : Int) := od_
             have q156 : (ji26) < (l0_1.length : Int) := od_
             obtain ⟨ad156, e156, hx156_0⟩ := Kd.at_int HR0_1.out (ji26) p156 q156
             have hw156_0 := hx156_0
             obtain rfl : ad155 = ad156 := (by injection e156)
             replace hx156_0 := (HB.out.cell (World.block_lt_of_cell? w _ hx156_0)).trans hx156_0
             replace p156 := eq_true p156; replace q156 := eq_true q156
             have p157 : 0 ≤ (t151 : Int) := od_
             have q157 : t151 < (l0_1.length : Int) := od_
             obtain ⟨ad157, e157, hx157_0⟩ := Kd.at_int HR0_1.out t151 p157 q157
             have hw157_0 := hx157_0
             obtain rfl : ad155 = ad157 := (by injection e157)
             replace hx157_0 := (HB.out.cell (World.block_lt_of_cell? w _ hx157_0)).trans hx157_0
             replace p157 := eq_true p157; replace q157 := eq_true q157
             refine start_ (n := 23) (S := fun w' => w'.cell? ⟨gb144, 0, none⟩ = some (.slice (some ad152) l0_0.length c0_0) ∧ w'.cell? ⟨gb144, 1, none⟩ = some (.slice (some ad155) l0_1.length c0_1) ∧ w'.cell? ⟨gb144, 2, none⟩ = some (.slice A0_2 l0_2.length c0_2) ∧ w'.cell? (ad155.add (t151).toNat) = some (.int .i64 (rd l0_1 t151)) ∧ w'.cell? (ad155.add ((ji26)).toNat) = some (.int .i64 (rd l0_1 (ji26))) ∧ w'.cell? (ad155.add (t151).toNat) = some (.int .i64 (rd l0_1 t151))) (ds := []) (bs_ 23 0) (by kernel_rfl) rfl (by kernel_rfl) ⟨bc0_ BK144, bc1_ BK144, bc2_ BK144, ((HB.out.cell (World.block_lt_of_cell? w _ hw155_0)).trans hw155_0), ((HB.out.cell (World.block_lt_of_cell? w _ hw156_0)).trans hw156_0), ((HB.out.cell (World.block_lt_of_cell? w _ hw157_0)).trans hw157_0)⟩ (fun hHeld => ?_); refine with_tabW spec_Inside.tab5 spec_Inside.bits5 (fun HT_ HW_ => ?_)
             generalize w39.drew = w40 at BK144 BK145 HB hx155_0 hx156_0 hx157_0 hHeld ⊢
             refine pu_ HT_ 0 67 (bs_ 23 1) ?_; refine pu_ HT_ 2 69 (bs_ 23 5) ?_; refine pu_ HT_ 5 72 (bs_ 23 37) ?_; refine pu_ HT_ 7 74 (bs_ 23 165) ?_; refine pu_ HT_ 9 76 (bs_ 23 677) ?_; refine pu_ HT_ 10 77 (bs_ 23 1701) ?_; refine pu_ HT_ 13 80 (bs_ 23 9893) ?_; refine pu_ HT_ 15 82 (bs_ 23 42661) ?_; refine pu_ HT_ 19 86 (bs_ 23 566949) ?_; refine tk_ HT_ HW_ 1 68 (bs_ 23 566951) hHeld ?_; refine pu_ HT_ 3 70 (bs_ 23 566959) ?_; refine tk_ HT_ HW_ 4 71 (bs_ 23 566975) hHeld ?_; refine pu_ HT_ 6 73 (bs_ 23 567039) ?_; refine tk_ HT_ HW_ 8 75 (bs_ 23 567295) hHeld ?_; refine pu_ HT_ 11 78 (bs_ 23 569343) ?_; refine tk_ HT_ HW_ 12 79 (bs_ 23 573439) hHeld ?_; refine tk_ HT_ HW_ 14 81 (bs_ 23 589823) hHeld ?_; refine pu_ HT_ 16 83 (bs_ 23 655359) ?_; refine tk_ HT_ HW_ 17 84 (bs_ 23 786431) hHeld ?_; refine pu_ HT_ 18 85 (bs_ 23 1048575) ?_; refine pu_ HT_ 20 87 (bs_ 23 2097151) ?_; refine pu_ HT_ 21 88 (bs_ 23 4194303) ?_; refine pu_ HT_ 22 8 (bs_ 23 8388607) ?_
             refine done_ (done_of HT_.out (by kernel_rfl)) ?_
             try go_wp2
             replace BK144 := dB_ BK144; replace BK145 := dB_ BK145; replace HB := dH_ HB
             have p158 : 0 ≤ (t151 : Int) := od_
             have q158 : t151 < (l0_2.length : Int) := od_
             obtain ⟨ad158, e158, hx158_0⟩ := Kd.at_int HR0_2.out t151 p158 q158
             have hw158_0 := hx158_0
             cases e158
             replace hx158_0 := (HB.out.cell (World.block_lt_of_cell? w _ hx158_0)).trans hx158_0
             replace p158 := eq_true p158; replace q158 := eq_true q158
             have p159 : 0 ≤ ((ji26) : Int) := od_
             have q159 : (ji26) < (l0_2.length : Int) := od_
             obtain ⟨ad159, e159, hx159_0⟩ := Kd.at_int HR0_2.out (ji26) p159 q159
             have hw159_0 := hx159_0
             obtain rfl : ad158 = ad159 := (by injection e159)
             replace hx159_0 := (HB.out.cell (World.block_lt_of_cell? w _ hx159_0)).trans hx159_0
             replace p159 := eq_true p159; replace q159 := eq_true q159
             have p160 : 0 ≤ (t151 : Int) := od_
             have q160 : t151 < (l0_2.length : Int) := od_
             obtain ⟨ad160, e160, hx160_0⟩ := Kd.at_int HR0_2.out t151 p160 q160
             have hw160_0 := hx160_0
             obtain rfl : ad158 = ad160 := (by injection e160)
             replace hx160_0 := (HB.out.cell (World.block_lt_of_cell? w _ hx160_0)).trans hx160_0
             replace p160 := eq_true p160; replace q160 := eq_true q160
             refine start_ (n := 23) (S := fun w' => w'.cell? ⟨gb144, 0, none⟩ = some (.slice (some ad152) l0_0.length c0_0) ∧ w'.cell? ⟨gb144, 1, none⟩ = some (.slice (some ad155) l0_1.length c0_1) ∧ w'.cell? ⟨gb144, 2, none⟩ = some (.slice (some ad158) l0_2.length c0_2) ∧ w'.cell? (ad158.add (t151).toNat) = some (.int .i64 (rd l0_2 t151)) ∧ w'.cell? (ad158.add ((ji26)).toNat) = some (.int .i64 (rd l0_2 (ji26))) ∧ w'.cell? (ad158.add (t151).toNat) = some (.int .i64 (rd l0_2 t151))) (ds := []) (bs_ 23 0) (by kernel_rfl) rfl (by kernel_rfl) ⟨bc0_ BK144, bc1_ BK144, bc2_ BK144, ((HB.out.cell (World.block_lt_of_cell? w _ hw158_0)).trans hw158_0), ((HB.out.cell (World.block_lt_of_cell? w _ hw159_0)).trans hw159_0), ((HB.out.cell (World.block_lt_of_cell? w _ hw160_0)).trans hw160_0)⟩ (fun hHeld => ?_); refine with_tabW spec_Inside.tab6 spec_Inside.bits6 (fun HT_ HW_ => ?_)
             generalize w40.drew = w41 at BK144 BK145 HB hx158_0 hx159_0 hx160_0 hHeld ⊢
             refine pu_ HT_ 0 89 (bs_ 23 1) ?_; refine pu_ HT_ 2 91 (bs_ 23 5) ?_; refine pu_ HT_ 5 94 (bs_ 23 37) ?_; refine pu_ HT_ 7 96 (bs_ 23 165) ?_; refine pu_ HT_ 9 98 (bs_ 23 677) ?_; refine pu_ HT_ 10 99 (bs_ 23 1701) ?_; refine pu_ HT_ 13 102 (bs_ 23 9893) ?_; refine pu_ HT_ 15 104 (bs_ 23 42661) ?_; refine pu_ HT_ 19 108 (bs_ 23 566949) ?_; refine tk_ HT_ HW_ 1 90 (bs_ 23 566951) hHeld ?_; refine pu_ HT_ 3 92 (bs_ 23 566959) ?_; refine tk_ HT_ HW_ 4 93 (bs_ 23 566975) hHeld ?_; refine pu_ HT_ 6 95 (bs_ 23 567039) ?_; refine tk_ HT_ HW_ 8 97 (bs_ 23 567295) hHeld ?_; refine pu_ HT_ 11 100 (bs_ 23 569343) ?_; refine tk_ HT_ HW_ 12 101 (bs_ 23 573439) hHeld ?_; refine tk_ HT_ HW_ 14 103 (bs_ 23 589823) hHeld ?_; refine pu_ HT_ 16 105 (bs_ 23 655359) ?_; refine tk_ HT_ HW_ 17 106 (bs_ 23 786431) hHeld ?_; refine pu_ HT_ 18 107 (bs_ 23 1048575) ?_; refine pu_ HT_ 20 109 (bs_ 23 2097151) ?_; refine pu_ HT_ 21 110 (bs_ 23 4194303) ?_; refine pu_ HT_ 22 9 (bs_ 23 8388607) ?_
             refine done_ (done_of HT_.out (by kernel_rfl)) ?_
             have hcz42_0 := bc0_ BK145; have hcz42_1 := bc1_ BK145; have hfz42_0 := bf_ BK145 0; have hfz42_1 := bf_ BK145 1
             try go_wp2
             go_ret
             exact ⟨by first | rfl | (simp [errW_none, errW_some] <;> rfl) | (simp only [← hji26]; first | rfl | (simp [errW_none, errW_some] <;> rfl)) | (simp [*, errW_none, errW_some] <;> rfl), hw_ HB⟩
            ·rw [if_neg c35] at H; have c35b0 : decide ((wrap64 ((wrap64 ((wrap64 ((rd l0_1 t151) * (wrap64 ((rd l0_0 (ji26)) - (rd l0_0 t151))))) + (wrap64 ((wrap64 ((rd l0_1 (ji26)) - (rd l0_1 t151))) * (wrap64 (a1_0 - (rd l0_0 t151))))))) * a1_0)) ≤ (wrap64 (a1_1 * (wrap64 ((rd l0_0 (ji26)) - (rd l0_0 t151)))))) = false := decide_eq_false c35; clear c35; obtain rfl := Option.some.inj H; have hnb43 := NB144_145.out; have hnc43 := NB145_144.out; have hcz44_0 := bc0_ BK144; have hcz44_1 := bc1_ BK144; have hcz44_2 := bc2_ BK144; have hfz44_0 := bf_ BK144 0; have hfz44_1 := bf_ BK144 1; have hfz44_2 := bf_ BK144 2; have hcz45_0 := bc0_ BK145; have hcz45_1 := bc1_ BK145; have hfz45_0 := bf_ BK145 0; have hfz45_1 := bf_ BK145 1
             try go_wp2_with (first | ((with_reducible refine gc_ 54 rfl ?_); refine gl_ (some 46) rfl Try.func54 #[.slice A0_0 l0_0.length c0_0, .int .i64 a1_0] ?_; (with_reducible refine (spec_l1Low.calls kj2 _ _ l0_0 a1_0 t151 _ ?side1 ?side2 A25.out).mono ?_); (case side1 => exact cw_ (Kd.C_below HR0_0.out HB.out)); (case side2 => exact HC0_0.out); rintro e w' ⟨rfl, ⟨nd, rfl⟩⟩; refine ⟨_, rfl, ?_⟩))
             (try (rw [drewN_self wc]; generalize hq_ : World.drewN wc _ = wc; have n0_ := qB_ hq_ BK144; have n1_ := qB_ hq_ BK145; have n2_ := qH_ hq_ HB; clear BK144 BK145 HB hq_; have BK144 := n0_; have BK145 := n1_; have HB := n2_; clear n0_ n1_ n2_))
             replace BK144 := dB_ BK144; replace BK145 := dB_ BK145; replace HB := dH_ HB
             have p152 : 0 ≤ ((ji26) : Int) := od_
             have q152 : (ji26) < (l0_0.length : Int) := od_
             obtain ⟨ad152, e152, hx152_0⟩ := Kd.at_int HR0_0.out (ji26) p152 q152
             have hw152_0 := hx152_0
             cases e152
             replace hx152_0 := (HB.out.cell (World.block_lt_of_cell? w _ hx152_0)).trans hx152_0
             replace p152 := eq_true p152; replace q152 := eq_true q152
             have p153 : 0 ≤ (t151 : Int) := od_
             have q153 : t151 < (l0_0.length : Int) := od_
             obtain ⟨ad153, e153, hx153_0⟩ := Kd.at_int HR0_0.out t151 p153 q153
             have hw153_0 := hx153_0
             obtain rfl : ad152 = ad153 := (by injection e153)
             replace hx153_0 := (HB.out.cell (World.block_lt_of_cell? w _ hx153_0)).trans hx153_0
             replace p153 := eq_true p153; replace q153 := eq_true q153
             have p154 : 0 ≤ (t151 : Int) := od_
             have q154 : t151 < (l0_0.length : Int) := od_
             obtain ⟨ad154, e154, hx154_0⟩ := Kd.at_int HR0_0.out t151 p154 q154
             have hw154_0 := hx154_0
             obtain rfl : ad152 = ad154 := (by injection e154)
             replace hx154_0 := (HB.out.cell (World.block_lt_of_cell? w _ hx154_0)).trans hx154_0
             replace p154 := eq_true p154; replace q154 := eq_true q154
             refine start_ (n := 22) (S := fun w' => w'.cell? ⟨gb144, 0, none⟩ = some (.slice (some ad152) l0_0.length c0_0) ∧ w'.cell? ⟨gb144, 1, none⟩ = some (.slice A0_1 l0_1.length c0_1) ∧ w'.cell? ⟨gb144, 2, none⟩ = some (.slice A0_2 l0_2.length c0_2) ∧ w'.cell? ⟨gb145, 0, none⟩ = some (.int .i64 a1_0) ∧ w'.cell? ⟨gb145, 1, none⟩ = some (.int .i64 a1_1) ∧ w'.cell? (ad152.add ((ji26)).toNat) = some (.int .i64 (rd l0_0 (ji26))) ∧ w'.cell? (ad152.add (t151).toNat) = some (.int .i64 (rd l0_0 t151)) ∧ w'.cell? (ad152.add (t151).toNat) = some (.int .i64 (rd l0_0 t151))) (ds := []) (bs_ 22 0) (by kernel_rfl) rfl (by kernel_rfl) ⟨bc0_ BK144, bc1_ BK144, bc2_ BK144, bc0_ BK145, bc1_ BK145, ((HB.out.cell (World.block_lt_of_cell? w _ hw152_0)).trans hw152_0), ((HB.out.cell (World.block_lt_of_cell? w _ hw153_0)).trans hw153_0), ((HB.out.cell (World.block_lt_of_cell? w _ hw154_0)).trans hw154_0)⟩ (fun hHeld => ?_); refine with_tabW spec_Inside.tab4 spec_Inside.bits4 (fun HT_ HW_ => ?_)
             generalize wc.drew = w46 at BK144 BK145 HB hx152_0 hx153_0 hx154_0 hHeld ⊢
             refine pu_ HT_ 0 47 (bs_ 22 1) ?_; refine pu_ HT_ 2 49 (bs_ 22 5) ?_; refine pu_ HT_ 3 50 (bs_ 22 13) ?_; refine pu_ HT_ 6 53 (bs_ 22 77) ?_; refine pu_ HT_ 8 55 (bs_ 22 333) ?_; refine pu_ HT_ 12 59 (bs_ 22 4429) ?_; refine pu_ HT_ 14 61 (bs_ 22 20813) ?_; refine pu_ HT_ 16 63 (bs_ 22 86349) ?_; refine tk_ HT_ HW_ 1 48 (bs_ 22 86351) hHeld ?_; refine pu_ HT_ 4 51 (bs_ 22 86367) ?_; refine tk_ HT_ HW_ 5 52 (bs_ 22 86399) hHeld ?_; refine tk_ HT_ HW_ 7 54 (bs_ 22 86527) hHeld ?_; refine pu_ HT_ 9 56 (bs_ 22 87039) ?_; refine tk_ HT_ HW_ 10 57 (bs_ 22 88063) hHeld ?_; refine pu_ HT_ 11 58 (bs_ 22 90111) ?_; refine pu_ HT_ 20 6 (bs_ 22 1138687) ?_; refine tk_ HT_ HW_ 13 60 (bs_ 22 1146879) hHeld ?_; refine tk_ HT_ HW_ 15 62 (bs_ 22 1179647) hHeld ?_; refine pu_ HT_ 17 64 (bs_ 22 1310719) ?_; refine tk_ HT_ HW_ 18 65 (bs_ 22 1572863) hHeld ?_; refine pu_ HT_ 19 66 (bs_ 22 2097151) ?_; refine pu_ HT_ 21 7 (bs_ 22 4194303) ?_
             refine done_ (done_of HT_.out (by kernel_rfl)) ?_
             try go_wp2
             replace BK144 := dB_ BK144; replace BK145 := dB_ BK145; replace HB := dH_ HB
             have p155 : 0 ≤ (t151 : Int) := od_
             have q155 : t151 < (l0_1.length : Int) := od_
             obtain ⟨ad155, e155, hx155_0⟩ := Kd.at_int HR0_1.out t151 p155 q155
             have hw155_0 := hx155_0
             cases e155
             replace hx155_0 := (HB.out.cell (World.block_lt_of_cell? w _ hx155_0)).trans hx155_0
             replace p155 := eq_true p155; replace q155 := eq_true q155
             have p156 : 0 ≤ ((ji26) : Int) := od_
             have q156 : (ji26) < (l0_1.length : Int) := od_
             obtain ⟨ad156, e156, hx156_0⟩ := Kd.at_int HR0_1.out (ji26) p156 q156
             have hw156_0 := hx156_0
             obtain rfl : ad155 = ad156 := (by injection e156)
             replace hx156_0 := (HB.out.cell (World.block_lt_of_cell? w _ hx156_0)).trans hx156_0
             replace p156 := eq_true p156; replace q156 := eq_true q156
             have p157 : 0 ≤ (t151 : Int) := od_
             have q157 : t151 < (l0_1.length : Int) := od_
             obtain ⟨ad157, e157, hx157_0⟩ := Kd.at_int HR0_1.out t151 p157 q157
             have hw157_0 := hx157_0
             obtain rfl : ad155 = ad157 := (by injection e157)
             replace hx157_0 := (HB.out.cell (World.block_lt_of_cell? w _ hx157_0)).trans hx157_0
             replace p157 := eq_true p157; replace q157 := eq_true q157
             refine start_ (n := 23) (S := fun w' => w'.cell? ⟨gb144, 0, none⟩ = some (.slice (some ad152) l0_0.length c0_0) ∧ w'.cell? ⟨gb144, 1, none⟩ = some (.slice (some ad155) l0_1.length c0_1) ∧ w'.cell? ⟨gb144, 2, none⟩ = some (.slice A0_2 l0_2.length c0_2) ∧ w'.cell? (ad155.add (t151).toNat) = some (.int .i64 (rd l0_1 t151)) ∧ w'.cell? (ad155.add ((ji26)).toNat) = some (.int .i64 (rd l0_1 (ji26))) ∧ w'.cell? (ad155.add (t151).toNat) = some (.int .i64 (rd l0_1 t151))) (ds := []) (bs_ 23 0) (by kernel_rfl) rfl (by kernel_rfl) ⟨bc0_ BK144, bc1_ BK144, bc2_ BK144, ((HB.out.cell (World.block_lt_of_cell? w _ hw155_0)).trans hw155_0), ((HB.out.cell (World.block_lt_of_cell? w _ hw156_0)).trans hw156_0), ((HB.out.cell (World.block_lt_of_cell? w _ hw157_0)).trans hw157_0)⟩ (fun hHeld => ?_); refine with_tabW spec_Inside.tab5 spec_Inside.bits5 (fun HT_ HW_ => ?_)
             generalize w46.drew = w47 at BK144 BK145 HB hx155_0 hx156_0 hx157_0 hHeld ⊢
             refine pu_ HT_ 0 67 (bs_ 23 1) ?_; refine pu_ HT_ 2 69 (bs_ 23 5) ?_; refine pu_ HT_ 5 72 (bs_ 23 37) ?_; refine pu_ HT_ 7 74 (bs_ 23 165) ?_; refine pu_ HT_ 9 76 (bs_ 23 677) ?_; refine pu_ HT_ 10 77 (bs_ 23 1701) ?_; refine pu_ HT_ 13 80 (bs_ 23 9893) ?_; refine pu_ HT_ 15 82 (bs_ 23 42661) ?_; refine pu_ HT_ 19 86 (bs_ 23 566949) ?_; refine tk_ HT_ HW_ 1 68 (bs_ 23 566951) hHeld ?_; refine pu_ HT_ 3 70 (bs_ 23 566959) ?_; refine tk_ HT_ HW_ 4 71 (bs_ 23 566975) hHeld ?_; refine pu_ HT_ 6 73 (bs_ 23 567039) ?_; refine tk_ HT_ HW_ 8 75 (bs_ 23 567295) hHeld ?_; refine pu_ HT_ 11 78 (bs_ 23 569343) ?_; refine tk_ HT_ HW_ 12 79 (bs_ 23 573439) hHeld ?_; refine tk_ HT_ HW_ 14 81 (bs_ 23 589823) hHeld ?_; refine pu_ HT_ 16 83 (bs_ 23 655359) ?_; refine tk_ HT_ HW_ 17 84 (bs_ 23 786431) hHeld ?_; refine pu_ HT_ 18 85 (bs_ 23 1048575) ?_; refine pu_ HT_ 20 87 (bs_ 23 2097151) ?_; refine pu_ HT_ 21 88 (bs_ 23 4194303) ?_; refine pu_ HT_ 22 8 (bs_ 23 8388607) ?_
             refine done_ (done_of HT_.out (by kernel_rfl)) ?_
             try go_wp2
             replace BK144 := dB_ BK144; replace BK145 := dB_ BK145; replace HB := dH_ HB
             have p158 : 0 ≤ (t151 : Int) := od_
             have q158 : t151 < (l0_2.length : Int) := od_
             obtain ⟨ad158, e158, hx158_0⟩ := Kd.at_int HR0_2.out t151 p158 q158
             have hw158_0 := hx158_0
             cases e158
             replace hx158_0 := (HB.out.cell (World.block_lt_of_cell? w _ hx158_0)).trans hx158_0
             replace p158 := eq_true p158; replace q158 := eq_true q158
             have p159 : 0 ≤ ((ji26) : Int) := od_
             have q159 : (ji26) < (l0_2.length : Int) := od_
             obtain ⟨ad159, e159, hx159_0⟩ := Kd.at_int HR0_2.out (ji26) p159 q159
             have hw159_0 := hx159_0
             obtain rfl : ad158 = ad159 := (by injection e159)
             replace hx159_0 := (HB.out.cell (World.block_lt_of_cell? w _ hx159_0)).trans hx159_0
             replace p159 := eq_true p159; replace q159 := eq_true q159
             have p160 : 0 ≤ (t151 : Int) := od_
             have q160 : t151 < (l0_2.length : Int) := od_
             obtain ⟨ad160, e160, hx160_0⟩ := Kd.at_int HR0_2.out t151 p160 q160
             have hw160_0 := hx160_0
             obtain rfl : ad158 = ad160 := (by injection e160)
             replace hx160_0 := (HB.out.cell (World.block_lt_of_cell? w _ hx160_0)).trans hx160_0
             replace p160 := eq_true p160; replace q160 := eq_true q160
             refine start_ (n := 23) (S := fun w' => w'.cell? ⟨gb144, 0, none⟩ = some (.slice (some ad152) l0_0.length c0_0) ∧ w'.cell? ⟨gb144, 1, none⟩ = some (.slice (some ad155) l0_1.length c0_1) ∧ w'.cell? ⟨gb144, 2, none⟩ = some (.slice (some ad158) l0_2.length c0_2) ∧ w'.cell? (ad158.add (t151).toNat) = some (.int .i64 (rd l0_2 t151)) ∧ w'.cell? (ad158.add ((ji26)).toNat) = some (.int .i64 (rd l0_2 (ji26))) ∧ w'.cell? (ad158.add (t151).toNat) = some (.int .i64 (rd l0_2 t151))) (ds := []) (bs_ 23 0) (by kernel_rfl) rfl (by kernel_rfl) ⟨bc0_ BK144, bc1_ BK144, bc2_ BK144, ((HB.out.cell (World.block_lt_of_cell? w _ hw158_0)).trans hw158_0), ((HB.out.cell (World.block_lt_of_cell? w _ hw159_0)).trans hw159_0), ((HB.out.cell (World.block_lt_of_cell? w _ hw160_0)).trans hw160_0)⟩ (fun hHeld => ?_); refine with_tabW spec_Inside.tab6 spec_Inside.bits6 (fun HT_ HW_ => ?_)
             generalize w47.drew = w48 at BK144 BK145 HB hx158_0 hx159_0 hx160_0 hHeld ⊢
             refine pu_ HT_ 0 89 (bs_ 23 1) ?_; refine pu_ HT_ 2 91 (bs_ 23 5) ?_; refine pu_ HT_ 5 94 (bs_ 23 37) ?_; refine pu_ HT_ 7 96 (bs_ 23 165) ?_; refine pu_ HT_ 9 98 (bs_ 23 677) ?_; refine pu_ HT_ 10 99 (bs_ 23 1701) ?_; refine pu_ HT_ 13 102 (bs_ 23 9893) ?_; refine pu_ HT_ 15 104 (bs_ 23 42661) ?_; refine pu_ HT_ 19 108 (bs_ 23 566949) ?_; refine tk_ HT_ HW_ 1 90 (bs_ 23 566951) hHeld ?_; refine pu_ HT_ 3 92 (bs_ 23 566959) ?_; refine tk_ HT_ HW_ 4 93 (bs_ 23 566975) hHeld ?_; refine pu_ HT_ 6 95 (bs_ 23 567039) ?_; refine tk_ HT_ HW_ 8 97 (bs_ 23 567295) hHeld ?_; refine pu_ HT_ 11 100 (bs_ 23 569343) ?_; refine tk_ HT_ HW_ 12 101 (bs_ 23 573439) hHeld ?_; refine tk_ HT_ HW_ 14 103 (bs_ 23 589823) hHeld ?_; refine pu_ HT_ 16 105 (bs_ 23 655359) ?_; refine tk_ HT_ HW_ 17 106 (bs_ 23 786431) hHeld ?_; refine pu_ HT_ 18 107 (bs_ 23 1048575) ?_; refine pu_ HT_ 20 109 (bs_ 23 2097151) ?_; refine pu_ HT_ 21 110 (bs_ 23 4194303) ?_; refine pu_ HT_ 22 9 (bs_ 23 8388607) ?_
             refine done_ (done_of HT_.out (by kernel_rfl)) ?_
             have hcz49_0 := bc0_ BK145; have hcz49_1 := bc1_ BK145; have hfz49_0 := bf_ BK145 0; have hfz49_1 := bf_ BK145 1
             try go_wp2
             go_ret
             exact ⟨by first | rfl | (simp [errW_none, errW_some] <;> rfl) | (simp only [← hji26]; first | rfl | (simp [errW_none, errW_some] <;> rfl)) | (simp [*, errW_none, errW_some] <;> rfl), hw_ HB⟩
           ·rw [if_neg c34] at H
            exact absurd H (by simp)
          ·rw [if_neg c33] at H
           exact absurd H (by simp)
         ·rw [if_neg c32] at H
          exact absurd H (by simp)
        ·rw [if_neg c31] at H
         exact absurd H (by simp)
       ·rw [if_neg c30] at H
        exact absurd H (by simp)
      ·rw [if_neg c29] at H
       exact absurd H (by simp)
     ·rw [if_neg c28] at H
      exact absurd H (by simp)
    ·rw [if_neg c27] at H
     exact absurd H (by simp)

end Go.Proofs.Yteedbciobdcmaaa.QFnExactLeaves
-- squeezed
