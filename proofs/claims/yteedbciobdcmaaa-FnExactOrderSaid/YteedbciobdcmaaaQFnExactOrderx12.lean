/- Lean functions that tell what the Go functions used by one law answer, and for each a proof that the Go code comes to just these answers; no condition. Printed by this session's own program over the kit's printer. -/
import Derived.Test.YteedbciobdcmaaaWSq
import Derived.Test.YteedbciobdcmaaaQFnExactOrderx0
import Derived.Test.YteedbciobdcmaaaQFnExactOrderx8
import Derived.Test.YteedbciobdcmaaaQFnExactOrderx9
import Derived.Test.YteedbciobdcmaaaQFnExactOrderx10
import Derived.Test.YteedbciobdcmaaaQFnExactOrderx11
namespace Go.Proofs.Yteedbciobdcmaaa.QFnExactOrder
open Go.RowKit Go.Proofs.YteedbciobdcmaaaW.PrintWords Go.Proofs.YteedbciobdcmaaaW.PrintLast Go.Proofs.YteedbciobdcmaaaW.PrintMore
attribute [local go_sem] max2_int min2_int max_two min_two max_three min_three max_four min_four   -- for this text's walks alone
attribute [local go_sem high] go_eql go_neq go_lss go_leq go_gtr go_geq go_store   -- for this text's walks alone
set_option linter.unusedVariables false
set_option linter.unusedSimpArgs false

/-! ### impl_Order: function 20 -/
mutual
def impl_Order.j0 : Nat → List (S60) → Int → Bool → List Int → List Int → List Int → Int → Int → Option ((List (S62)) × Bool)
 | 0, _, _, _, _, _, _, _, _ => none
 | k + 1, x2, x3, x33, x282000, x282001, x282002, x283000, x283001 => if x33 = true then (some (([] : List (S62)), false)) else ((impl_FuelTank_41.f x2).bind fun t288 => (impl_Order.l0 k x3 t288 (([] : List (S62))) x282000 x282001 x282002 x283000 x283001))
def impl_Order.l0 : Nat → Int → List (S60) → List (S62) → List Int → List Int → List Int → Int → Int → Option ((List (S62)) × Bool)
 | 0, _, _, _, _, _, _, _, _ => none
 | k + 1, x3, x10, x11, x282000, x282001, x282002, x283000, x283001 => impl_Order.l1 k x3 x10 x11 false false (x10.length : Int) 0 x282000 x282001 x282002 x283000 x283001
def impl_Order.l1 : Nat → Int → List (S60) → List (S62) → Bool → Bool → Int → Int → List Int → List Int → List Int → Int → Int → Option ((List (S62)) × Bool)
 | 0, _, _, _, _, _, _, _, _, _, _, _, _ => none
 | k + 1, x3, x10, x11, x12, x13, x38, x39, x282000, x282001, x282002, x283000, x283001 => if x39 < x38 then (if 0 ≤ x39 then (if x39 < (x10.length : Int) then (if (mn x3 ((rd_T60 x10 x39).f0)) = 0 then (impl_Order.l1 k x3 x10 x11 x12 x13 x38 (wrap64 (x39 + 1)) x282000 x282001 x282002 x283000 x283001) else (if (x11.length : Int) = 60 then (if x12 = true then (impl_Order.l0 k x3 x10 x11 x282000 x282001 x282002 x283000 x283001) else (some (x11, !true))) else ((some (x10.set (x39 : Int).toNat (⟨wrap64 (((rd_T60 x10 x39).f0) - (mn x3 ((rd_T60 x10 x39).f0))), (rd_T60 x10 x39).f1⟩ : S60) : List (S60))).bind fun y296 => ((impl_laden.f k x283000 x283001 y296).bind fun bt297 => ((impl_inside.f k x282000 x282001 x282002 bt297.1 bt297.2).bind fun t299 => (if t299 = true then (if x11.length < 8796093022208 then (impl_Order.l0 k x3 y296 (x11 ++ [(⟨x39, mn x3 ((rd_T60 x10 x39).f0)⟩ : S62)]) x282000 x282001 x282002 x283000 x283001) else (none)) else (impl_Order.l1 k x3 (y296.set (x39 : Int).toNat (⟨wrap64 (((rd_T60 y296 x39).f0) + (mn x3 ((rd_T60 x10 x39).f0))), (rd_T60 y296 x39).f1⟩ : S60)) x11 x12 true x38 (wrap64 (x39 + 1)) x282000 x282001 x282002 x283000 x283001))))))) else (none)) else (none)) else (if x12 = true then (impl_Order.l0 k x3 x10 x11 x282000 x282001 x282002 x283000 x283001) else (some (x11, !x13)))
end
def impl_Order.f (k : Nat) (l0_0 : List Int) (l0_1 : List Int) (l0_2 : List Int) (a1_0 : Int) (a1_1 : Int) (l2 : List (S60)) (a3 : Int) : Option ((List (S62)) × Bool) := (impl_ladenOk.f k l0_0 l0_1 l0_2 a1_0 a1_1 l2).bind fun t283 => (if t283 = true then ((impl_in.f a3 1 10000).bind fun t284 => (if t284 = true then ((impl_laden.f k a1_0 a1_1 l2).bind fun bt285 => ((impl_inside.f k l0_0 l0_1 l0_2 bt285.1 bt285.2).bind fun t287 => (impl_Order.j0 k l2 a3 (!t287) l0_0 l0_1 l0_2 a1_0 a1_1))) else (impl_Order.j0 k l2 a3 true l0_0 l0_1 l0_2 a1_0 a1_1))) else (impl_Order.j0 k l2 a3 true l0_0 l0_1 l0_2 a1_0 a1_1))
theorem impl_Order.mono_l : ∀ k, (∀ y0 y1 y2 y3 y4 y5 y6 y7, LeO (impl_Order.j0 k y0 y1 y2 y3 y4 y5 y6 y7) (impl_Order.j0 (k + 1) y0 y1 y2 y3 y4 y5 y6 y7)) ∧ (∀ y0 y1 y2 y3 y4 y5 y6 y7, LeO (impl_Order.l0 k y0 y1 y2 y3 y4 y5 y6 y7) (impl_Order.l0 (k + 1) y0 y1 y2 y3 y4 y5 y6 y7)) ∧ (∀ y0 y1 y2 y3 y4 y5 y6 y7 y8 y9 y10 y11, LeO (impl_Order.l1 k y0 y1 y2 y3 y4 y5 y6 y7 y8 y9 y10 y11) (impl_Order.l1 (k + 1) y0 y1 y2 y3 y4 y5 y6 y7 y8 y9 y10 y11))
 | 0 => ⟨fun _ _ _ _ _ _ _ _ r h => by simp [impl_Order.j0] at h, fun _ _ _ _ _ _ _ _ r h => by simp [impl_Order.l0] at h, fun _ _ _ _ _ _ _ _ _ _ _ _ r h => by simp [impl_Order.l1] at h⟩
 | k + 1 => by
  obtain ⟨ih0, ih1, ih2⟩ := impl_Order.mono_l k
  refine ⟨?_, ?_, ?_⟩
  ·intro y0 y1 y2 y3 y4 y5 y6 y7
   unfold impl_Order.j0
   repeat' first
   | (with_reducible exact ih0 _ _ _ _ _ _ _ _)
   | (with_reducible exact ih1 _ _ _ _ _ _ _ _)
   | (with_reducible exact ih2 _ _ _ _ _ _ _ _ _ _ _ _)
   | (with_reducible exact impl_inside.mono _ _ _ _ _ _)
   | (with_reducible exact impl_laden.mono _ _ _ _)
   | (with_reducible exact impl_ladenOk.mono _ _ _ _ _ _ _)
   | (with_reducible exact LeO.refl _)
   | (with_reducible exact LeO.none _)
   | (with_reducible refine LeO.ite ?_ ?_)
   | (with_reducible refine LeO.bind ?_ (fun _ => ?_))
   | exact ih0 _ _ _ _ _ _ _ _
   | exact ih1 _ _ _ _ _ _ _ _
   | exact ih2 _ _ _ _ _ _ _ _ _ _ _ _
   | exact impl_inside.mono _ _ _ _ _ _
   | exact impl_laden.mono _ _ _ _
   | exact impl_ladenOk.mono _ _ _ _ _ _ _
   | exact LeO.none _
   | refine LeO.ite ?_ ?_
   | refine LeO.bind ?_ (fun _ => ?_)
  ·intro y0 y1 y2 y3 y4 y5 y6 y7
   unfold impl_Order.l0
   repeat' first
   | (with_reducible exact ih0 _ _ _ _ _ _ _ _)
   | (with_reducible exact ih1 _ _ _ _ _ _ _ _)
   | (with_reducible exact ih2 _ _ _ _ _ _ _ _ _ _ _ _)
   | (with_reducible exact impl_inside.mono _ _ _ _ _ _)
   | (with_reducible exact impl_laden.mono _ _ _ _)
   | (with_reducible exact impl_ladenOk.mono _ _ _ _ _ _ _)
   | (with_reducible exact LeO.refl _)
   | (with_reducible exact LeO.none _)
   | (with_reducible refine LeO.ite ?_ ?_)
   | (with_reducible refine LeO.bind ?_ (fun _ => ?_))
   | exact ih0 _ _ _ _ _ _ _ _
   | exact ih1 _ _ _ _ _ _ _ _
   | exact ih2 _ _ _ _ _ _ _ _ _ _ _ _
   | exact impl_inside.mono _ _ _ _ _ _
   | exact impl_laden.mono _ _ _ _
   | exact impl_ladenOk.mono _ _ _ _ _ _ _
   | exact LeO.none _
   | refine LeO.ite ?_ ?_
   | refine LeO.bind ?_ (fun _ => ?_)
  ·intro y0 y1 y2 y3 y4 y5 y6 y7 y8 y9 y10 y11
   unfold impl_Order.l1
   repeat' first
   | (with_reducible exact ih0 _ _ _ _ _ _ _ _)
   | (with_reducible exact ih1 _ _ _ _ _ _ _ _)
   | (with_reducible exact ih2 _ _ _ _ _ _ _ _ _ _ _ _)
   | (with_reducible exact impl_inside.mono _ _ _ _ _ _)
   | (with_reducible exact impl_laden.mono _ _ _ _)
   | (with_reducible exact impl_ladenOk.mono _ _ _ _ _ _ _)
   | (with_reducible exact LeO.refl _)
   | (with_reducible exact LeO.none _)
   | (with_reducible refine LeO.ite ?_ ?_)
   | (with_reducible refine LeO.bind ?_ (fun _ => ?_))
   | exact ih0 _ _ _ _ _ _ _ _
   | exact ih1 _ _ _ _ _ _ _ _
   | exact ih2 _ _ _ _ _ _ _ _ _ _ _ _
   | exact impl_inside.mono _ _ _ _ _ _
   | exact impl_laden.mono _ _ _ _
   | exact impl_ladenOk.mono _ _ _ _ _ _ _
   | exact LeO.none _
   | refine LeO.ite ?_ ?_
   | refine LeO.bind ?_ (fun _ => ?_)
theorem impl_Order.mono : ∀ a0 a1 a2 a3 a4 a5 a6 k, LeO (impl_Order.f k a0 a1 a2 a3 a4 a5 a6) (impl_Order.f (k + 1) a0 a1 a2 a3 a4 a5 a6) := by
 intro a0 a1 a2 a3 a4 a5 a6 k
 obtain ⟨ih0, ih1, ih2⟩ := impl_Order.mono_l k
 unfold impl_Order.f
 repeat' first
   | (with_reducible exact ih0 _ _ _ _ _ _ _ _)
   | (with_reducible exact ih1 _ _ _ _ _ _ _ _)
   | (with_reducible exact ih2 _ _ _ _ _ _ _ _ _ _ _ _)
   | (with_reducible exact impl_inside.mono _ _ _ _ _ _)
   | (with_reducible exact impl_laden.mono _ _ _ _)
   | (with_reducible exact impl_ladenOk.mono _ _ _ _ _ _ _)
   | (with_reducible exact LeO.refl _)
   | (with_reducible exact LeO.none _)
   | (with_reducible refine LeO.ite ?_ ?_)
   | (with_reducible refine LeO.bind ?_ (fun _ => ?_))
   | exact ih0 _ _ _ _ _ _ _ _
   | exact ih1 _ _ _ _ _ _ _ _
   | exact ih2 _ _ _ _ _ _ _ _ _ _ _ _
   | exact impl_inside.mono _ _ _ _ _ _
   | exact impl_laden.mono _ _ _ _
   | exact impl_ladenOk.mono _ _ _ _ _ _ _
   | exact LeO.none _
   | refine LeO.ite ?_ ?_
   | refine LeO.bind ?_ (fun _ => ?_)
def impl_Order.T1 : Bool × List (List Nat × List Nat) := (true, [([], []), ([], []), ([], []), ([0, 1, 2], [0, 1, 2]), ([3], [3]), ([4, 3], [4]), ([5], [5]), ([6, 5, 5], [5, 6]), ([7, 5], [5, 7]), ([5, 8], [5, 8]), ([9, 7], [9]), ([10], [10]), ([10], [10]), ([10], [10]), ([12, 13, 10, 10], [10, 12, 13]), ([11, 14, 14, 10], [10, 11, 14]), ([15, 10], [10, 15]), ([10, 16], [10, 16])])
def impl_Order.B1 : List Nat := [0, 0, 0, 7, 15, 31, 63, 127, 255, 511, 1023, 2047, 2047, 2047, 14335, 32767, 65535, 131071]
theorem impl_Order.tab1 : rtab .any (opsOf Try.f20 1) = impl_Order.T1 := by kernel_rfl
theorem impl_Order.bits1 : waitsOk impl_Order.T1.2 impl_Order.B1 = true := by kernel_rfl
set_option maxHeartbeats 8000000 in
set_option maxRecDepth 100000 in
theorem impl_Order.calls (k : Nat) (A0_0 : Option Addr) (c0_0 : Nat) (l0_0 : List Int) (A0_1 : Option Addr) (c0_1 : Nat) (l0_1 : List Int) (A0_2 : Option Addr) (c0_2 : Nat) (l0_2 : List Int) (a1_0 : Int) (a1_1 : Int) (A2 : Option Addr) (c2 : Nat) (l2 : List (S60)) (a3 : Int) (r1 : List (S62)) (r2 : Bool) (w : World) (hr0_0 : Kd.C (Kd.int .i64) w A0_0 l0_0.length l0_0) (hc0_0 : l0_0.length ≤ c0_0) (hr0_1 : Kd.C (Kd.int .i64) w A0_1 l0_1.length l0_1) (hc0_1 : l0_1.length ≤ c0_1) (hr0_2 : Kd.C (Kd.int .i64) w A0_2 l0_2.length l0_2) (hc0_2 : l0_2.length ≤ c0_2) (hr2 : Kd.C k60 w A2 l2.length l2) (hc2 : l2.length ≤ c2) (h : impl_Order.f k l0_0 l0_1 l0_2 a1_0 a1_1 l2 a3 = some (r1, r2)) :
  Calls Try.prog 20 #[.agg #[.slice A0_0 l0_0.length c0_0, .slice A0_1 l0_1.length c0_1, .slice A0_2 l0_2.length c0_2], .agg #[.int .i64 a1_0, .int .i64 a1_1], .slice A2 l2.length c2, .int .i64 a3] w fun e w' => ∃ v0_ : Value, e = .returned (.tuple #[v0_, .bool r2]) ∧ Kd.R k62 62 w' w.heap.size (fun _ => True) v0_ r1 ∧ Below w.heap.size w w' := by
 have hu33 := Try.underlying33
 have hu35 := Try.underlying35
 have hu62 := Try.underlying62
 have HR0_0 := mk_ hr0_0; have HC0_0 := mk_ hc0_0; clear hr0_0 hc0_0; have HR0_1 := mk_ hr0_1; have HC0_1 := mk_ hc0_1; clear hr0_1 hc0_1; have HR0_2 := mk_ hr0_2; have HC0_2 := mk_ hc0_2; clear hr0_2 hc0_2; have HR2 := mk_ hr2; have HC2 := mk_ hc2; clear hr2 hc2; have HB := mk_ (Below.refl w.heap.size w)
 have H : ((impl_ladenOk.f k l0_0 l0_1 l0_2 a1_0 a1_1 l2).bind fun t283 => (if t283 = true then ((impl_in.f a3 1 10000).bind fun t284 => (if t284 = true then ((impl_laden.f k a1_0 a1_1 l2).bind fun bt285 => ((impl_inside.f k l0_0 l0_1 l0_2 bt285.1 bt285.2).bind fun t287 => (impl_Order.j0 k l2 a3 (!t287) l0_0 l0_1 l0_2 a1_0 a1_1))) else (impl_Order.j0 k l2 a3 true l0_0 l0_1 l0_2 a1_0 a1_1))) else (impl_Order.j0 k l2 a3 true l0_0 l0_1 l0_2 a1_0 a1_1))) = some (r1, r2) := h
 clear h; have HC5 := mk_ H; clear H
 go_enter Try.func20, Try.ntmps20
 go_upto_region 1 with (first | ((with_reducible refine gd_ 4 rfl ?_); refine box_event ?hg (N := 4) ?hd (cs := #[.slice A0_0 l0_0.length c0_0, .slice A0_1 l0_1.length c0_1, .slice A0_2 l0_2.length c0_2]) (t := 33) ?hr ?_; (case hd => rfl); (case hg => rfl); (case hr => exact hr_); intro gb281 hg w6 hbox hb; have BK281 := mk_ (hbox); have GW281 := gb_ hg HB; replace HB := bp_ HB hb; have GE281 := GW281; clear hb hbox hg) | ((with_reducible refine gd_ 5 rfl ?_); refine box_event ?hg (N := 5) ?hd (cs := #[.int .i64 a1_0, .int .i64 a1_1]) (t := 35) ?hr ?_; (case hd => rfl); (case hg => rfl); (case hr => exact hr_); intro gb282 hg w7 hbox hb; have BK282 := mk_ (hbox); have GW282 := gb_ hg HB; replace HB := bp_ HB hb; have GE282 := GW282; have NB281_282 := nb_ hg BK281; replace BK281 := bl_ BK281 hb; have NB282_281 := ns_ NB281_282; clear hb hbox hg))
 (try simp only [Act.put, List.setIfInBounds_toArray, List.set_cons_zero, List.set_cons_succ])
 go_cut [33] (fun v33 wc => ∃ (kq : Nat) (x33_4 : Bool), v33 = .bool x33_4 ∧ Aside0 (impl_Order.j0 kq l2 a3 x33_4 l0_0 l0_1 l0_2 a1_0 a1_1 = some (r1, r2)) ∧ Aside0 (kq ≤ k) ∧ Aside0 (wc.heap[gb281]? = some (.cells #[(.slice A0_0 l0_0.length c0_0), (.slice A0_1 l0_1.length c0_1), (.slice A0_2 l0_2.length c0_2)] 33 (0, 0))) ∧ Aside0 (wc.heap[gb282]? = some (.cells #[.int .i64 a1_0, .int .i64 a1_1] 35 (0, 0))) ∧ Aside0 (Below w.heap.size w wc))
 case first =>
  have H := HC5.out; clear HC5; replace H := Option.bind_eq_some_iff.mp H; obtain ⟨t283, A80, H⟩ := H
  replace H : (if t283 = true then ((impl_in.f a3 1 10000).bind fun t284 => (if t284 = true then ((impl_laden.f k a1_0 a1_1 l2).bind fun bt285 => ((impl_inside.f k l0_0 l0_1 l0_2 bt285.1 bt285.2).bind fun t287 => (impl_Order.j0 k l2 a3 (!t287) l0_0 l0_1 l0_2 a1_0 a1_1))) else (impl_Order.j0 k l2 a3 true l0_0 l0_1 l0_2 a1_0 a1_1))) else (impl_Order.j0 k l2 a3 true l0_0 l0_1 l0_2 a1_0 a1_1)) = some (r1, r2) := H
  have A8 := mk_ A80; clear A80; by_cases c9 : t283 = true
  ·subst c9
   have H1 : ((impl_in.f a3 1 10000).bind fun t284 => (if t284 = true then ((impl_laden.f k a1_0 a1_1 l2).bind fun bt285 => ((impl_inside.f k l0_0 l0_1 l0_2 bt285.1 bt285.2).bind fun t287 => (impl_Order.j0 k l2 a3 (!t287) l0_0 l0_1 l0_2 a1_0 a1_1))) else (impl_Order.j0 k l2 a3 true l0_0 l0_1 l0_2 a1_0 a1_1))) = some (r1, r2) := by rw [if_pos rfl] at H; exact H
   clear H
   have H := H1
   clear H1; replace H := Option.bind_eq_some_iff.mp H; obtain ⟨t284, A100, H⟩ := H
   replace H : (if t284 = true then ((impl_laden.f k a1_0 a1_1 l2).bind fun bt285 => ((impl_inside.f k l0_0 l0_1 l0_2 bt285.1 bt285.2).bind fun t287 => (impl_Order.j0 k l2 a3 (!t287) l0_0 l0_1 l0_2 a1_0 a1_1))) else (impl_Order.j0 k l2 a3 true l0_0 l0_1 l0_2 a1_0 a1_1)) = some (r1, r2) := H
   have A10 := mk_ A100; clear A100; by_cases c11 : t284 = true
   ·subst c11
    have H1 : ((impl_laden.f k a1_0 a1_1 l2).bind fun bt285 => ((impl_inside.f k l0_0 l0_1 l0_2 bt285.1 bt285.2).bind fun t287 => (impl_Order.j0 k l2 a3 (!t287) l0_0 l0_1 l0_2 a1_0 a1_1))) = some (r1, r2) := by rw [if_pos rfl] at H; exact H
    clear H
    have H := H1
    clear H1; replace H := Option.bind_eq_some_iff.mp H; obtain ⟨⟨t285, t286⟩, A120, H⟩ := H
    replace H : ((impl_inside.f k l0_0 l0_1 l0_2 t285 t286).bind fun t287 => (impl_Order.j0 k l2 a3 (!t287) l0_0 l0_1 l0_2 a1_0 a1_1)) = some (r1, r2) := H
    have A12 := mk_ A120; clear A120; replace H := Option.bind_eq_some_iff.mp H; obtain ⟨t287, A130, H⟩ := H
    replace H : (impl_Order.j0 k l2 a3 (!t287) l0_0 l0_1 l0_2 a1_0 a1_1) = some (r1, r2) := H
    have A13 := mk_ A130; clear A130
    have H' := mk_ H
    clear H
    try go_wp2
    replace BK281 := dB_ BK281; replace BK282 := dB_ BK282; replace HB := dH_ HB
    refine start_ (n := 18) (S := fun w' => w'.cell? ⟨gb281, 0, none⟩ = some (.slice A0_0 l0_0.length c0_0) ∧ w'.cell? ⟨gb281, 1, none⟩ = some (.slice A0_1 l0_1.length c0_1) ∧ w'.cell? ⟨gb281, 2, none⟩ = some (.slice A0_2 l0_2.length c0_2) ∧ w'.cell? ⟨gb282, 0, none⟩ = some (.int .i64 a1_0) ∧ w'.cell? ⟨gb282, 1, none⟩ = some (.int .i64 a1_1)) (ds := []) (bs_ 18 0) (by kernel_rfl) rfl (by kernel_rfl) ⟨bc0_ BK281, bc1_ BK281, bc2_ BK281, bc0_ BK282, bc1_ BK282⟩ (fun hHeld => ?_); refine with_tabW impl_Order.tab1 impl_Order.bits1 (fun HT_ HW_ => ?_)
    generalize w7.drew = w14 at BK281 BK282 HB hHeld ⊢
    refine pu_ HT_ 2 18 (bs_ 18 4) ?_; refine tk_ HT_ HW_ 0 16 (bs_ 18 5) hHeld ?_; refine tk_ HT_ HW_ 1 17 (bs_ 18 7) hHeld ?_
    refine one_ (i := 3) (N := some 19) (bs_ 18 15) rfl rfl (one_of HT_.out (by kernel_rfl)) (by decide) (fun K hK => ?_)
    refine gs_ Try.func38 #[.agg #[.slice A0_0 l0_0.length c0_0, .slice A0_1 l0_1.length c0_1, .slice A0_2 l0_2.length c0_2], .agg #[.int .i64 a1_0, .int .i64 a1_1], .slice A2 l2.length c2] ?_
    with_reducible refine (impl_ladenOk.calls k _ _ l0_0 _ _ l0_1 _ _ l0_2 a1_0 a1_1 _ _ l2 true _ ?side1 ?side2 ?side3 ?side4 ?side5 ?side6 ?side7 ?side8 A8.out).mono ?_
    (case side1 => exact cw_ (Kd.C_below HR0_0.out HB.out))
    (case side2 => exact HC0_0.out)
    (case side3 => exact cw_ (Kd.C_below HR0_1.out HB.out))
    (case side4 => exact HC0_1.out)
    (case side5 => exact cw_ (Kd.C_below HR0_2.out HB.out))
    (case side6 => exact HC0_2.out)
    (case side7 => exact cw_ (Kd.C_below HR2.out HB.out))
    (case side8 => exact HC2.out)
    rintro e w15 ⟨rfl, hb⟩
    refine ⟨_, rfl, ?_⟩
    replace BK281 := bk_ BK281 hb; replace BK282 := bk_ BK282 hb; replace HB := hk_ HB hb
    (try clear hb); (try clear hb2); (try clear hk); (try clear hi)
    refine hK.out _ _ ⟨bc0_ BK281, bc1_ BK281, bc2_ BK281, bc0_ BK282, bc1_ BK282⟩ (fun hHeld => ?_)
    clear hK K; refine nm_ ?_; refine pu_ HT_ 4 20 (bs_ 18 31) ?_; refine pu_ HT_ 5 21 (bs_ 18 63) ?_; refine pu_ HT_ 6 22 (bs_ 18 127) ?_
    refine one_ (i := 7) (N := some 23) (bs_ 18 255) rfl rfl (one_of HT_.out (by kernel_rfl)) (by decide) (fun K hK => ?_)
    refine gs_ Try.func48 #[.int .i64 a3, .int .i64 1, .int .i64 10000] ?_
    with_reducible refine (impl_in.calls a3 1 10000 true _ A10.out).mono ?_
    rintro e w' ⟨rfl, ⟨nd, rfl⟩⟩
    refine ⟨_, rfl, ?_⟩
    refine hK.out _ _ ⟨bc0_ BK281, bc1_ BK281, bc2_ BK281, bc0_ BK282, bc1_ BK282⟩ (fun hHeld => ?_)
    clear hK K; refine nm_ ?_; refine pu_ HT_ 8 24 (bs_ 18 511) ?_; refine pu_ HT_ 9 25 (bs_ 18 1023) ?_; refine pu_ HT_ 10 26 (bs_ 18 2047) ?_; refine pu_ HT_ 13 29 (bs_ 18 10239) ?_; refine tk_ HT_ HW_ 11 27 (bs_ 18 12287) hHeld ?_; refine tk_ HT_ HW_ 12 28 (bs_ 18 16383) hHeld ?_
    refine one_ (i := 14) (N := some 30) (bs_ 18 32767) rfl rfl (one_of HT_.out (by kernel_rfl)) (by decide) (fun K hK => ?_)
    refine gs_ Try.func40 #[.agg #[.int .i64 a1_0, .int .i64 a1_1], .slice A2 l2.length c2] ?_
    with_reducible refine (impl_laden.calls k a1_0 a1_1 _ _ l2 t285 t286 _ ?side1 ?side2 A12.out).mono ?_
    (case side1 => repeat (first | exact (Kd.C_below HR2.out (hw_ HB)) | (with_reducible refine Kd.C_alloc ?_ _) | (with_reducible refine Kd.C_drewN ?_ _) | (with_reducible refine Kd.C_drew ?_)))
    (case side2 => exact HC2.out)
    rintro e w16 ⟨rfl, hb⟩
    refine ⟨_, rfl, ?_⟩
    replace BK281 := bk_ BK281 hb; replace BK282 := bk_ BK282 hb; replace HB := hk_ HB hb
    (try clear hb); (try clear hb2); (try clear hk); (try clear hi)
    refine hK.out _ _ ⟨bc0_ BK281, bc1_ BK281, bc2_ BK281, bc0_ BK282, bc1_ BK282⟩ (fun hHeld => ?_)
    clear hK K; refine nm_ ?_
    refine one_ (i := 15) (N := some 31) (bs_ 18 65535) rfl rfl (one_of HT_.out (by kernel_rfl)) (by decide) (fun K hK => ?_)
    refine gs_ Try.func39 #[.agg #[.slice A0_0 l0_0.length c0_0, .slice A0_1 l0_1.length c0_1, .slice A0_2 l0_2.length c0_2], .agg #[.int .i64 t285, .int .i64 t286]] ?_
    with_reducible refine (impl_inside.calls k _ _ l0_0 _ _ l0_1 _ _ l0_2 t285 t286 t287 _ ?side1 ?side2 ?side3 ?side4 ?side5 ?side6 A13.out).mono ?_
    (case side1 => exact cw_ (Kd.C_below HR0_0.out HB.out))
    (case side2 => exact HC0_0.out)
    (case side3 => exact cw_ (Kd.C_below HR0_1.out HB.out))
    (case side4 => exact HC0_1.out)
    (case side5 => exact cw_ (Kd.C_below HR0_2.out HB.out))
    (case side6 => exact HC0_2.out)
    rintro e w17 ⟨rfl, hb⟩
    refine ⟨_, rfl, ?_⟩
    replace BK281 := bk_ BK281 hb; replace BK282 := bk_ BK282 hb; replace HB := hk_ HB hb
    (try clear hb); (try clear hb2); (try clear hk); (try clear hi)
    refine hK.out _ _ ⟨bc0_ BK281, bc1_ BK281, bc2_ BK281, bc0_ BK282, bc1_ BK282⟩ (fun hHeld => ?_)
    clear hK K; refine nm_ ?_; refine pu_ HT_ 16 32 (bs_ 18 131071) ?_; refine pu_ HT_ 17 33 (bs_ 18 262143) ?_
    refine done_ (done_of HT_.out (by kernel_rfl)) ?_
    try go_wp2
    go_meet
    case rel => exact ⟨_, (!t287), rf_, H', ⟨by first | omega | exact Nat.le_refl _⟩, bw_ BK281, bw_ BK282, ⟨hw_ HB⟩⟩
   ·replace c11 := Bool.eq_false_iff.mpr c11; subst c11
    have H1 : (impl_Order.j0 k l2 a3 true l0_0 l0_1 l0_2 a1_0 a1_1) = some (r1, r2) := by rw [if_neg (show ¬ (false = true) by decide)] at H; exact H
    clear H
    have H := H1
    clear H1
    have H' := mk_ H
    clear H
    try go_wp2
    replace BK281 := dB_ BK281; replace BK282 := dB_ BK282; replace HB := dH_ HB
    refine start_ (n := 18) (S := fun w' => w'.cell? ⟨gb281, 0, none⟩ = some (.slice A0_0 l0_0.length c0_0) ∧ w'.cell? ⟨gb281, 1, none⟩ = some (.slice A0_1 l0_1.length c0_1) ∧ w'.cell? ⟨gb281, 2, none⟩ = some (.slice A0_2 l0_2.length c0_2) ∧ w'.cell? ⟨gb282, 0, none⟩ = some (.int .i64 a1_0) ∧ w'.cell? ⟨gb282, 1, none⟩ = some (.int .i64 a1_1)) (ds := []) (bs_ 18 0) (by kernel_rfl) rfl (by kernel_rfl) ⟨bc0_ BK281, bc1_ BK281, bc2_ BK281, bc0_ BK282, bc1_ BK282⟩ (fun hHeld => ?_); refine with_tabW impl_Order.tab1 impl_Order.bits1 (fun HT_ HW_ => ?_)
    generalize w7.drew = w18 at BK281 BK282 HB hHeld ⊢
    refine pu_ HT_ 2 18 (bs_ 18 4) ?_; refine tk_ HT_ HW_ 0 16 (bs_ 18 5) hHeld ?_; refine tk_ HT_ HW_ 1 17 (bs_ 18 7) hHeld ?_
    refine one_ (i := 3) (N := some 19) (bs_ 18 15) rfl rfl (one_of HT_.out (by kernel_rfl)) (by decide) (fun K hK => ?_)
    refine gs_ Try.func38 #[.agg #[.slice A0_0 l0_0.length c0_0, .slice A0_1 l0_1.length c0_1, .slice A0_2 l0_2.length c0_2], .agg #[.int .i64 a1_0, .int .i64 a1_1], .slice A2 l2.length c2] ?_
    with_reducible refine (impl_ladenOk.calls k _ _ l0_0 _ _ l0_1 _ _ l0_2 a1_0 a1_1 _ _ l2 true _ ?side1 ?side2 ?side3 ?side4 ?side5 ?side6 ?side7 ?side8 A8.out).mono ?_
    (case side1 => exact cw_ (Kd.C_below HR0_0.out HB.out))
    (case side2 => exact HC0_0.out)
    (case side3 => exact cw_ (Kd.C_below HR0_1.out HB.out))
    (case side4 => exact HC0_1.out)
    (case side5 => exact cw_ (Kd.C_below HR0_2.out HB.out))
    (case side6 => exact HC0_2.out)
    (case side7 => exact cw_ (Kd.C_below HR2.out HB.out))
    (case side8 => exact HC2.out)
    rintro e w19 ⟨rfl, hb⟩
    refine ⟨_, rfl, ?_⟩
    replace BK281 := bk_ BK281 hb; replace BK282 := bk_ BK282 hb; replace HB := hk_ HB hb
    (try clear hb); (try clear hb2); (try clear hk); (try clear hi)
    refine hK.out _ _ ⟨bc0_ BK281, bc1_ BK281, bc2_ BK281, bc0_ BK282, bc1_ BK282⟩ (fun hHeld => ?_)
    clear hK K; refine nm_ ?_; refine pu_ HT_ 4 20 (bs_ 18 31) ?_; refine pu_ HT_ 5 21 (bs_ 18 63) ?_; refine pu_ HT_ 6 22 (bs_ 18 127) ?_
    refine one_ (i := 7) (N := some 23) (bs_ 18 255) rfl rfl (one_of HT_.out (by kernel_rfl)) (by decide) (fun K hK => ?_)
    refine gs_ Try.func48 #[.int .i64 a3, .int .i64 1, .int .i64 10000] ?_
    with_reducible refine (impl_in.calls a3 1 10000 false _ A10.out).mono ?_
    rintro e w' ⟨rfl, ⟨nd, rfl⟩⟩
    refine ⟨_, rfl, ?_⟩
    refine hK.out _ _ ⟨bc0_ BK281, bc1_ BK281, bc2_ BK281, bc0_ BK282, bc1_ BK282⟩ (fun hHeld => ?_)
    clear hK K; refine nm_ ?_; refine pu_ HT_ 8 24 (bs_ 18 511) ?_; refine pu_ HT_ 9 25 (bs_ 18 1023) ?_; refine pu_ HT_ 10 26 (bs_ 18 2047) ?_; refine pn_ HT_ 11 27 (bs_ 18 4095) ?_; refine pn_ HT_ 12 28 (bs_ 18 8191) ?_; refine pn_ HT_ 13 29 (bs_ 18 16383) ?_; refine pn_ HT_ 14 30 (bs_ 18 32767) ?_; refine pn_ HT_ 15 31 (bs_ 18 65535) ?_; refine pn_ HT_ 16 32 (bs_ 18 131071) ?_; refine pu_ HT_ 17 33 (bs_ 18 262143) ?_
    refine done_ (done_of HT_.out (by kernel_rfl)) ?_
    try go_wp2
    go_meet
    case rel => exact ⟨_, (true), rf_, H', ⟨by first | omega | exact Nat.le_refl _⟩, bw_ BK281, bw_ BK282, ⟨hw_ HB⟩⟩
  ·replace c9 := Bool.eq_false_iff.mpr c9; subst c9
   have H1 : (impl_Order.j0 k l2 a3 true l0_0 l0_1 l0_2 a1_0 a1_1) = some (r1, r2) := by rw [if_neg (show ¬ (false = true) by decide)] at H; exact H
   clear H
   have H := H1
   clear H1
   have H' := mk_ H
   clear H
   try go_wp2
   replace BK281 := dB_ BK281; replace BK282 := dB_ BK282; replace HB := dH_ HB
   refine start_ (n := 18) (S := fun w' => w'.cell? ⟨gb281, 0, none⟩ = some (.slice A0_0 l0_0.length c0_0) ∧ w'.cell? ⟨gb281, 1, none⟩ = some (.slice A0_1 l0_1.length c0_1) ∧ w'.cell? ⟨gb281, 2, none⟩ = some (.slice A0_2 l0_2.length c0_2) ∧ w'.cell? ⟨gb282, 0, none⟩ = some (.int .i64 a1_0) ∧ w'.cell? ⟨gb282, 1, none⟩ = some (.int .i64 a1_1)) (ds := []) (bs_ 18 0) (by kernel_rfl) rfl (by kernel_rfl) ⟨bc0_ BK281, bc1_ BK281, bc2_ BK281, bc0_ BK282, bc1_ BK282⟩ (fun hHeld => ?_); refine with_tabW impl_Order.tab1 impl_Order.bits1 (fun HT_ HW_ => ?_)
   generalize w7.drew = w20 at BK281 BK282 HB hHeld ⊢
   refine pu_ HT_ 2 18 (bs_ 18 4) ?_; refine tk_ HT_ HW_ 0 16 (bs_ 18 5) hHeld ?_; refine tk_ HT_ HW_ 1 17 (bs_ 18 7) hHeld ?_
   refine one_ (i := 3) (N := some 19) (bs_ 18 15) rfl rfl (one_of HT_.out (by kernel_rfl)) (by decide) (fun K hK => ?_)
   refine gs_ Try.func38 #[.agg #[.slice A0_0 l0_0.length c0_0, .slice A0_1 l0_1.length c0_1, .slice A0_2 l0_2.length c0_2], .agg #[.int .i64 a1_0, .int .i64 a1_1], .slice A2 l2.length c2] ?_
   with_reducible refine (impl_ladenOk.calls k _ _ l0_0 _ _ l0_1 _ _ l0_2 a1_0 a1_1 _ _ l2 false _ ?side1 ?side2 ?side3 ?side4 ?side5 ?side6 ?side7 ?side8 A8.out).mono ?_
   (case side1 => exact cw_ (Kd.C_below HR0_0.out HB.out))
   (case side2 => exact HC0_0.out)
   (case side3 => exact cw_ (Kd.C_below HR0_1.out HB.out))
   (case side4 => exact HC0_1.out)
   (case side5 => exact cw_ (Kd.C_below HR0_2.out HB.out))
   (case side6 => exact HC0_2.out)
   (case side7 => exact cw_ (Kd.C_below HR2.out HB.out))
   (case side8 => exact HC2.out)
   rintro e w21 ⟨rfl, hb⟩
   refine ⟨_, rfl, ?_⟩
   replace BK281 := bk_ BK281 hb; replace BK282 := bk_ BK282 hb; replace HB := hk_ HB hb
   (try clear hb); (try clear hb2); (try clear hk); (try clear hi)
   refine hK.out _ _ ⟨bc0_ BK281, bc1_ BK281, bc2_ BK281, bc0_ BK282, bc1_ BK282⟩ (fun hHeld => ?_)
   clear hK K; refine nm_ ?_; refine pu_ HT_ 4 20 (bs_ 18 31) ?_; refine pu_ HT_ 5 21 (bs_ 18 63) ?_; refine pn_ HT_ 6 22 (bs_ 18 127) ?_; refine pn_ HT_ 7 23 (bs_ 18 255) ?_; refine pn_ HT_ 8 24 (bs_ 18 511) ?_; refine pu_ HT_ 9 25 (bs_ 18 1023) ?_; refine pu_ HT_ 10 26 (bs_ 18 2047) ?_; refine pn_ HT_ 11 27 (bs_ 18 4095) ?_; refine pn_ HT_ 12 28 (bs_ 18 8191) ?_; refine pn_ HT_ 13 29 (bs_ 18 16383) ?_; refine pn_ HT_ 14 30 (bs_ 18 32767) ?_; refine pn_ HT_ 15 31 (bs_ 18 65535) ?_; refine pn_ HT_ 16 32 (bs_ 18 131071) ?_; refine pu_ HT_ 17 33 (bs_ 18 262143) ?_
   refine done_ (done_of HT_.out (by kernel_rfl)) ?_
   try go_wp2
   go_meet
   case rel => exact ⟨_, (true), rf_, H', ⟨by first | omega | exact Nat.le_refl _⟩, bw_ BK281, bw_ BK282, ⟨hw_ HB⟩⟩
 case rest =>
  clear HC5; (try clear c2)
  obtain ⟨kq, x33_4, rfl, HA, HJ4, BK281, BK282, HB⟩ := hcut
  cases kq with
  | zero => exact absurd HA.out (by simp [impl_Order.j0])
  | succ kj4 =>
   have H := HA.out; clear HA
   simp only [impl_Order.j0] at H
   by_cases c22 : x33_4 = true
   ·subst c22
    have H1 : (some (([] : List (S62)), false)) = some (r1, r2) := by rw [if_pos rfl] at H; exact H
    clear H
    have H := H1
    clear H1
    simp only [Option.some.injEq, Prod.mk.injEq] at H
    obtain ⟨rfl, rfl⟩ := H; go_wp2
    go_ret2
    exact ⟨_, re_, by first | exact Kd.R_nil _ _ _ _ _ | exact Kd.N_nil _ _ _ _ _ | exact Kd.V_nil _ _ _ _ _ | exact Kd.Q_nil _ _ _ _ _ | exact Kd.S_nil _ _ _ _ _, hw_ HB⟩
   ·replace c22 := Bool.eq_false_iff.mpr c22; subst c22
    have H1 : ((impl_FuelTank_41.f l2).bind fun t288 => (impl_Order.l0 kj4 a3 t288 (([] : List (S62))) l0_0 l0_1 l0_2 a1_0 a1_1)) = some (r1, r2) := by rw [if_neg (show ¬ (false = true) by decide)] at H; exact H
    clear H
    have H := H1
    clear H1; replace H := Option.bind_eq_some_iff.mp H; obtain ⟨t288, A230, H⟩ := H
    replace H : (impl_Order.l0 kj4 a3 t288 (([] : List (S62))) l0_0 l0_1 l0_2 a1_0 a1_1) = some (r1, r2) := H
    have A23 := mk_ A230; clear A230
    obtain ⟨y291, hy291⟩ : ∃ y_ : List (S62), y_ = (([] : List (S62))) := ⟨_, rfl⟩
    replace H : (impl_Order.l0 kj4 a3 t288 y291 l0_0 l0_1 l0_2 a1_0 a1_1) = some (r1, r2) := by first | (rw [hy291]; with_reducible exact H) | (have H2_ := (Option.bind_some _ _).symm.trans H; rw [hy291]; with_reducible exact H2_) | (have H2_ := (Option.bind_some _ _).symm.trans H; with_reducible exact H2_) | with_reducible exact H | (rw [hy291]; exact H) | exact H
    have Ny291 := mk_ hy291; clear hy291
    have H' := mk_ H
    clear H
    go_wp2_with (first | ((with_reducible refine gc_ 41 rfl ?_); refine gl_ (some 35) rfl Try.func41 #[.slice A2 l2.length c2] ?_; (with_reducible refine (impl_FuelTank_41.calls _ _ l2 t288 _ ?side1 ?side2 A23.out).mono ?_); (case side1 => exact cw_ (Kd.C_below HR2.out HB.out)); (case side2 => exact HC2.out); rintro e w24 ⟨v289, rfl, ho0, hb⟩; refine ⟨_, rfl, ?_⟩; have HO290 := mk_ (Kd.R_lower ho0 (below_size (by exact HB.out))); replace BK281 := bl_ BK281 hb; replace BK282 := bl_ BK282 hb; replace HB := bp_ HB hb; (try clear hb); (try clear hb2); (try clear hk); (try clear hi); (try clear ho0)) | ((with_reducible refine gd_ 36 rfl ?_); refine Kd.R_lit k62 _ 62 ?hg (N := 36) ?hd (xs := ([] : List (S62))) (inner := []) (ok := fun _ => True) (okp := fun _ => True) ?hr ?hp (fun _ hk => hk) trivial (Below.refl _ _) (Nat.le_refl _) (by simp) ?_; (case hd => rfl); (case hg => rfl); (case hr => exact hr_); (case hp => exact (Reps.none _ _)); intro v292 w25 ho26 hb hg_ hnew_; clear hg_ hnew_; (first | rw [← Ny291.out] at ho26 | (simp only [Int.reduceToNat] at ho26; rw [← Ny291.out] at ho26)); replace HO290 := rb_ HO290 hb; have HO293 := mk_ (Kd.R_lower ho26 (below_size (by exact HB.out))); replace BK281 := bl_ BK281 hb; replace BK282 := bl_ BK282 hb; replace HB := bp_ HB hb; clear hb ho26))
    go_loopg [11] kj4 (fun kq v11 w' => ∃ (x10_2 : List (S60)) (x11_2 : List (S62)), Aside0 (impl_Order.l0 kq a3 x10_2 x11_2 l0_0 l0_1 l0_2 a1_0 a1_1 = some (r1, r2)) ∧ Aside0 (kq ≤ kj4) ∧ Aside0 (Kd.R k60 60 w' w.heap.size (fun _ => True) v289 x10_2) ∧ Aside0 (Kd.R k62 62 w' w.heap.size (fun _ => True) v11 x11_2) ∧ Aside0 (w'.heap[gb281]? = some (.cells #[(.slice A0_0 l0_0.length c0_0), (.slice A0_1 l0_1.length c0_1), (.slice A0_2 l0_2.length c0_2)] 33 (0, 0))) ∧ Aside0 (w'.heap[gb282]? = some (.cells #[.int .i64 a1_0, .int .i64 a1_1] 35 (0, 0))) ∧ Aside0 (Below w.heap.size w w'))
    case atStart => exact ⟨(t288), (y291), H', ⟨Nat.le_refl _⟩, kw_ HO290, kw_ HO293, bw_ BK281, bw_ BK282, ⟨hw_ HB⟩⟩
    case round =>
     clear H'; (try clear c2); (try clear c22)
     obtain ⟨x10_2, x11_2, HA, HK2, HO_10, HO_11, BK281, BK282, HB⟩ := hrel
     cases gk with
     | zero => exact absurd HA.out (by simp [impl_Order.l0])
     | succ k2 =>
      have H := HA.out; clear HA
      simp only [impl_Order.l0] at H
      have H' := mk_ H
      clear H; obtain ⟨Ao27, co27, eo27⟩ := Kd.R_slice HO_10.out; subst eo27; go_wp2
      go_loopg [11, 12, 13, 39] k2 (fun kq v11 v12 v13 v39 w' => ∃ (x10_3 : List (S60)) (x11_3 : List (S62)) (x12_3 : Bool) (x13_3 : Bool) (x39_3 : Int), v12 = .bool x12_3 ∧ v13 = .bool x13_3 ∧ v39 = .int .i64 x39_3 ∧ Aside0 (impl_Order.l1 kq a3 x10_3 x11_3 x12_3 x13_3 (x10_2.length : Int) x39_3 l0_0 l0_1 l0_2 a1_0 a1_1 = some (r1, r2)) ∧ Aside0 (kq ≤ k2) ∧ Aside0 (Kd.R k60 60 w' w.heap.size (fun _ => True) (.slice Ao27 x10_2.length co27) x10_3) ∧ Aside0 (Kd.R k62 62 w' w.heap.size (fun _ => True) v11 x11_3) ∧ Aside0 (w'.heap[gb281]? = some (.cells #[(.slice A0_0 l0_0.length c0_0), (.slice A0_1 l0_1.length c0_1), (.slice A0_2 l0_2.length c0_2)] 33 (0, 0))) ∧ Aside0 (w'.heap[gb282]? = some (.cells #[.int .i64 a1_0, .int .i64 a1_1] 35 (0, 0))) ∧ Aside0 (Below w.heap.size w w'))
      case atStart => exact ⟨(x10_2), (x11_2), (false), (false), (0), rf_, rf_, rf_, H', ⟨Nat.le_refl _⟩, kw_ HO_10, kw_ HO_11, bw_ BK281, bw_ BK282, ⟨hw_ HB⟩⟩
      case round =>
       clear H'; (try clear c2); (try clear c22)
       obtain ⟨x10_3, x11_3, x12_3, x13_3, x39_3, rfl, rfl, rfl, HA, HK3, HO_10, HO_11, BK281, BK282, HB⟩ := hrel
       have hl10_3 := (Kd.R_reads' HO_10.out).1
       rw [hl10_3] at HO_10
       (try simp only [hl10_3])
       (try simp only [hl10_3] at BK281)
       (try simp only [hl10_3] at BK282)
       (try simp only [hl10_3] at HO_11)
       cases gk with
       | zero => exact absurd HA.out (by simp [impl_Order.l1])
       | succ k3 =>
        have H := HA.out; clear HA
        simp only [impl_Order.l1] at H
        by_cases c28 : x39_3 < (x10_2.length : Int)
        ·rw [if_pos c28] at H; have c28b0 : decide (x39_3 < (x10_2.length : Int)) = true := decide_eq_true c28
         (try (have c28h3 := c28b0; rw [hl10_3] at c28h3))
         clear c28; by_cases c29 : 0 ≤ x39_3
         ·rw [if_pos c29] at H; have c29b0 : decide (0 ≤ x39_3) = true := decide_eq_true c29; clear c29; by_cases c30 : x39_3 < (x10_3.length : Int)
          ·rw [if_pos c30] at H; have c30b0 : decide (x39_3 < (x10_3.length : Int)) = true := decide_eq_true c30
           (try (have c30h3 := c30b0; rw [hl10_3] at c30h3))
           clear c30
           obtain ⟨ji31, hji31⟩ : ∃ j_ : Int, (mn a3 ((rd_T60 x10_3 x39_3).f0)) = j_ := ⟨_, rfl⟩
           replace H : (if (ji31) = 0 then (impl_Order.l1 k3 a3 x10_3 x11_3 x12_3 x13_3 (x10_2.length : Int) (wrap64 (x39_3 + 1)) l0_0 l0_1 l0_2 a1_0 a1_1) else (if (x11_3.length : Int) = 60 then (if x12_3 = true then (impl_Order.l0 k3 a3 x10_3 x11_3 l0_0 l0_1 l0_2 a1_0 a1_1) else (some (x11_3, !true))) else ((some (x10_3.set (x39_3 : Int).toNat (⟨wrap64 (((rd_T60 x10_3 x39_3).f0) - (ji31)), (rd_T60 x10_3 x39_3).f1⟩ : S60) : List (S60))).bind fun y296 => ((impl_laden.f k3 a1_0 a1_1 y296).bind fun bt297 => ((impl_inside.f k3 l0_0 l0_1 l0_2 bt297.1 bt297.2).bind fun t299 => (if t299 = true then (if x11_3.length < 8796093022208 then (impl_Order.l0 k3 a3 y296 (x11_3 ++ [(⟨x39_3, ji31⟩ : S62)]) l0_0 l0_1 l0_2 a1_0 a1_1) else (none)) else (impl_Order.l1 k3 a3 (y296.set (x39_3 : Int).toNat (⟨wrap64 (((rd_T60 y296 x39_3).f0) + (ji31)), (rd_T60 y296 x39_3).f1⟩ : S60)) x11_3 x12_3 true (x10_2.length : Int) (wrap64 (x39_3 + 1)) l0_0 l0_1 l0_2 a1_0 a1_1))))))) = some (r1, r2) := by first | (rw [hji31] at H; exact H) | (simp only [hji31] at H ⊢; exact H)
           have hji31_ : (if ((rd_T60 x10_3 x39_3).f0) < a3 then ((rd_T60 x10_3 x39_3).f0) else a3) = ji31 := hji31
           by_cases c32 : (ji31) = 0
           ·rw [if_pos c32] at H; have c32b0 : ((ji31) == 0) = true := beq_iff_eq.mpr c32; have c32b1 : ((ji31) != 0) = false := bne_eq_false_iff_eq.mpr c32; clear c32
            have H' := mk_ H
            clear H
            have p294 : 0 ≤ (x39_3 : Int) := od_
            have q294 : x39_3 < (x10_3.length : Int) := od_
            obtain ⟨ad294, e294, hx294_0, hx294_1⟩ := at_T60 (rr_ HO_10) x39_3 p294 q294; cases e294; replace p294 := eq_true p294; replace q294 := eq_true q294; go_wp2
            (try simp only [← hl10_3])
            go_roundg k3
            case measure => have := HJ4.out; have := HK2.out; have := HK3.out; omega
            case rel => exact ⟨(x10_3), (x11_3), (x12_3), (x13_3), (wrap64 (x39_3 + 1)), rf_, rf_, rf_, H', ⟨by have := HJ4.out; have := HK2.out; have := HK3.out; omega⟩, ⟨by (try simp only [hl10_3]); (with_reducible repeat (first | apply Kd.R_alloc | apply Kd.R_drewN | apply Kd.R_drew)); exact HO_10.out⟩, ⟨by (try simp only [hl10_3]); (with_reducible repeat (first | apply Kd.R_alloc | apply Kd.R_drewN | apply Kd.R_drew)); exact HO_11.out⟩, ⟨by (try simp only [hl10_3]); (with_reducible repeat (first | refine blk_drewN ?_ _ | refine blk_drew ?_ | refine blk_alloc ?_ _)); exact BK281.out⟩, ⟨by (try simp only [hl10_3]); (with_reducible repeat (first | refine blk_drewN ?_ _ | refine blk_drew ?_ | refine blk_alloc ?_ _)); exact BK282.out⟩, ⟨hw_ HB⟩⟩
           ·rw [if_neg c32] at H; have c32b0 : ((ji31) == 0) = false := beq_eq_false_iff_ne.mpr c32; have c32b1 : ((ji31) != 0) = true := bne_iff_ne.mpr c32; by_cases c33 : (x11_3.length : Int) = 60
            ·rw [if_pos c33] at H; have c33b0 : ((x11_3.length : Int) == 60) = true := beq_iff_eq.mpr c33; have c33b1 : ((x11_3.length : Int) != 60) = false := bne_eq_false_iff_eq.mpr c33; clear c33; by_cases c34 : x12_3 = true
             ·subst c34
              have H1 : (impl_Order.l0 k3 a3 x10_3 x11_3 l0_0 l0_1 l0_2 a1_0 a1_1) = some (r1, r2) := by rw [if_pos rfl] at H; exact H
              clear H
              have H := H1
              clear H1
              have H' := mk_ H
              clear H
              have p294 : 0 ≤ (x39_3 : Int) := od_
              have q294 : x39_3 < (x10_3.length : Int) := od_
              obtain ⟨ad294, e294, hx294_0, hx294_1⟩ := at_T60 (rr_ HO_10) x39_3 p294 q294; cases e294; replace p294 := eq_true p294; replace q294 := eq_true q294; obtain ⟨Ao35, co35, eo35⟩ := Kd.R_slice HO_11.out; subst eo35; go_wp2
              (try simp only [← hl10_3])
              go_roundg k3
              case measure => have := HJ4.out; have := HK2.out; have := HK3.out; omega
              case rel => exact ⟨(x10_3), (x11_3), H', ⟨by have := HJ4.out; have := HK2.out; have := HK3.out; omega⟩, ⟨by (try simp only [hl10_3]); (with_reducible repeat (first | apply Kd.R_alloc | apply Kd.R_drewN | apply Kd.R_drew)); exact HO_10.out⟩, ⟨by (try simp only [hl10_3]); (with_reducible repeat (first | apply Kd.R_alloc | apply Kd.R_drewN | apply Kd.R_drew)); exact HO_11.out⟩, ⟨by (try simp only [hl10_3]); (with_reducible repeat (first | refine blk_drewN ?_ _ | refine blk_drew ?_ | refine blk_alloc ?_ _)); exact BK281.out⟩, ⟨by (try simp only [hl10_3]); (with_reducible repeat (first | refine blk_drewN ?_ _ | refine blk_drew ?_ | refine blk_alloc ?_ _)); exact BK282.out⟩, ⟨hw_ HB⟩⟩
             ·replace c34 := Bool.eq_false_iff.mpr c34; subst c34
              have H1 : (some (x11_3, !true)) = some (r1, r2) := by rw [if_neg (show ¬ (false = true) by decide)] at H; exact H
              clear H
              have H := H1
              clear H1
              simp only [Option.some.injEq, Prod.mk.injEq] at H
              obtain ⟨rfl, rfl⟩ := H
              have p294 : 0 ≤ (x39_3 : Int) := od_
              have q294 : x39_3 < (x10_3.length : Int) := od_
              obtain ⟨ad294, e294, hx294_0, hx294_1⟩ := at_T60 (rr_ HO_10) x39_3 p294 q294; cases e294; replace p294 := eq_true p294; replace q294 := eq_true q294; obtain ⟨Ao36, co36, eo36⟩ := Kd.R_slice HO_11.out; subst eo36; go_wp2
              go_ret2
              exact ⟨_, by first | rfl | (simp [errW_none, errW_some] <;> rfl) | (simp only [← hji31]; first | rfl | (simp [errW_none, errW_some] <;> rfl)) | (simp [*, errW_none, errW_some] <;> rfl), by (with_reducible repeat (first | apply Kd.R_alloc | apply Kd.R_drewN | apply Kd.R_drew)); exact HO_11.out, hw_ HB⟩
            ·rw [if_neg c33] at H; have c33b0 : ((x11_3.length : Int) == 60) = false := beq_eq_false_iff_ne.mpr c33; have c33b1 : ((x11_3.length : Int) != 60) = true := bne_iff_ne.mpr c33
             obtain ⟨y296, hy296⟩ : ∃ y_ : List (S60), y_ = (x10_3.set (x39_3 : Int).toNat (⟨wrap64 (((rd_T60 x10_3 x39_3).f0) - (ji31)), (rd_T60 x10_3 x39_3).f1⟩ : S60)) := ⟨_, rfl⟩
             replace H : ((impl_laden.f k3 a1_0 a1_1 y296).bind fun bt297 => ((impl_inside.f k3 l0_0 l0_1 l0_2 bt297.1 bt297.2).bind fun t299 => (if t299 = true then (if x11_3.length < 8796093022208 then (impl_Order.l0 k3 a3 y296 (x11_3 ++ [(⟨x39_3, ji31⟩ : S62)]) l0_0 l0_1 l0_2 a1_0 a1_1) else (none)) else (impl_Order.l1 k3 a3 (y296.set (x39_3 : Int).toNat (⟨wrap64 (((rd_T60 y296 x39_3).f0) + (ji31)), (rd_T60 y296 x39_3).f1⟩ : S60)) x11_3 x12_3 true (x10_2.length : Int) (wrap64 (x39_3 + 1)) l0_0 l0_1 l0_2 a1_0 a1_1)))) = some (r1, r2) := by first | (rw [hy296]; with_reducible exact H) | (have H2_ := (Option.bind_some _ _).symm.trans H; rw [hy296]; with_reducible exact H2_) | (have H2_ := (Option.bind_some _ _).symm.trans H; with_reducible exact H2_) | with_reducible exact H | (rw [hy296]; exact H) | exact H
             have Ny296 := mk_ hy296; clear hy296; replace H := Option.bind_eq_some_iff.mp H; obtain ⟨⟨t297, t298⟩, A380, H⟩ := H
             replace H : ((impl_inside.f k3 l0_0 l0_1 l0_2 t297 t298).bind fun t299 => (if t299 = true then (if x11_3.length < 8796093022208 then (impl_Order.l0 k3 a3 y296 (x11_3 ++ [(⟨x39_3, ji31⟩ : S62)]) l0_0 l0_1 l0_2 a1_0 a1_1) else (none)) else (impl_Order.l1 k3 a3 (y296.set (x39_3 : Int).toNat (⟨wrap64 (((rd_T60 y296 x39_3).f0) + (ji31)), (rd_T60 y296 x39_3).f1⟩ : S60)) x11_3 x12_3 true (x10_2.length : Int) (wrap64 (x39_3 + 1)) l0_0 l0_1 l0_2 a1_0 a1_1))) = some (r1, r2) := H
             have A38 := mk_ A380; clear A380; replace H := Option.bind_eq_some_iff.mp H; obtain ⟨t299, A390, H⟩ := H
             replace H : (if t299 = true then (if x11_3.length < 8796093022208 then (impl_Order.l0 k3 a3 y296 (x11_3 ++ [(⟨x39_3, ji31⟩ : S62)]) l0_0 l0_1 l0_2 a1_0 a1_1) else (none)) else (impl_Order.l1 k3 a3 (y296.set (x39_3 : Int).toNat (⟨wrap64 (((rd_T60 y296 x39_3).f0) + (ji31)), (rd_T60 y296 x39_3).f1⟩ : S60)) x11_3 x12_3 true (x10_2.length : Int) (wrap64 (x39_3 + 1)) l0_0 l0_1 l0_2 a1_0 a1_1)) = some (r1, r2) := H
             have A39 := mk_ A390; clear A390; by_cases c40 : t299 = true
             ·subst c40
              have H1 : (if x11_3.length < 8796093022208 then (impl_Order.l0 k3 a3 y296 (x11_3 ++ [(⟨x39_3, ji31⟩ : S62)]) l0_0 l0_1 l0_2 a1_0 a1_1) else (none)) = some (r1, r2) := by rw [if_pos rfl] at H; exact H
              clear H
              have H := H1
              clear H1; by_cases c41 : x11_3.length < 8796093022208
              ·rw [if_pos c41] at H; have LMc41 := mk_ c41; clear c41
               obtain ⟨y300, hy300⟩ : ∃ y_ : List (S62), y_ = (x11_3 ++ [(⟨x39_3, ji31⟩ : S62)]) := ⟨_, rfl⟩
               replace H : (impl_Order.l0 k3 a3 y296 y300 l0_0 l0_1 l0_2 a1_0 a1_1) = some (r1, r2) := by first | (rw [hy300]; with_reducible exact H) | (have H2_ := (Option.bind_some _ _).symm.trans H; rw [hy300]; with_reducible exact H2_) | (have H2_ := (Option.bind_some _ _).symm.trans H; with_reducible exact H2_) | with_reducible exact H | (rw [hy300]; exact H) | exact H
               have Ny300 := mk_ hy300; clear hy300
               have H' := mk_ H
               clear H
               have p294 : 0 ≤ (x39_3 : Int) := od_
               have q294 : x39_3 < (x10_3.length : Int) := od_
               obtain ⟨ad294, e294, hx294_0, hx294_1⟩ := at_T60 (rr_ HO_10) x39_3 p294 q294; cases e294; replace p294 := eq_true p294; replace q294 := eq_true q294; obtain ⟨Ao42, co42, eo42⟩ := Kd.R_slice HO_11.out; subst eo42
               have p295 : 0 ≤ (x39_3 : Int) := od_
               have q295 : x39_3 < (x10_3.length : Int) := od_
               obtain ⟨ad295, e295, hx295_0, hx295_1⟩ := at_T60 (rr_ HO_10) x39_3 p295 q295; obtain rfl : ad294 = ad295 := (by injection e295); replace p295 := eq_true p295; replace q295 := eq_true q295
               have p37 : 0 ≤ (x39_3 : Int) := od_
               have q37 : (x39_3 : Int) < ((x10_3.length : Int) : Int) := od_
               obtain ⟨go37, co37, eo37, gb37, gl37, cl37, HG37⟩ := Kd.R_form HO_10.out (by omega)
               (first | cases eo37 | (injection eo37 with ea_ en_ ec_; (first | subst ea_ | (injection ea_ with ea_; subst ea_)); subst ec_; clear en_))
               have GB37 := mk_ gb37; have GG37 := mk_ HG37; clear gb37 gl37 HG37
               (first | simp only [add_plain] at hx294_0 | skip)
               (first | simp only [add_plain] at hx294_1 | skip)
               (first | simp only [add_plain] at hx295_0 | skip)
               (first | simp only [add_plain] at hx295_1 | skip)
               obtain ⟨ce37, hcl37, hM37, hcc37, hfr37⟩ := Kd.R_elem HO_10.out z60 (x39_3 : Int) p37 q37
               obtain rfl := k60_openM hM37
               have hx37_0 : wr.cell? ⟨go37, (x39_3 : Int).toNat * 2, none⟩ = some (.int .i64 ((rd_T60 x10_3 x39_3).f0)) := hcc37 0 _ rfl
               have hx37_1 : wr.cell? ⟨go37, (x39_3 : Int).toNat * 2 + 1, none⟩ = some (.int .i64 ((rd_T60 x10_3 x39_3).f1)) := hcc37 1 _ rfl
               have hf37_0 : wr.frozen? ⟨go37, (x39_3 : Int).toNat * 2, none⟩ = false := hfr37 0
               have hf37_1 : wr.frozen? ⟨go37, (x39_3 : Int).toNat * 2 + 1, none⟩ = false := hfr37 1
               clear hcl37 hcc37 hfr37; (try clear hM37); replace p37 := eq_true p37; replace q37 := eq_true q37; have HX43 := mk_ (show Kd.R k60 60 wr w.heap.size (fun _ => True) (.slice (some ⟨go37, 0, none⟩) x10_3.length co27) x10_3 from (by exact HO_10.out))
               obtain ⟨ce43, hcl43, hM43, hcc43, hfr43⟩ := Kd.R_elem HX43.out z60 (x39_3 : Int) (od_) (by have h_ : (x39_3 : Int) < ((x10_3.length : Int) : Int) := od_; first | exact h_ | (have e_ := (Kd.R_reads' HO_10.out).1; omega) | simpa using h_)
               obtain rfl := k60_openM hM43
               have HP43 := Kd.R_seg HX43.out (x39_3 : Int) (od_) (by have h_ : (x39_3 : Int) < ((x10_3.length : Int) : Int) := od_; first | exact h_ | (have e_ := (Kd.R_reads' HO_10.out).1; omega) | simpa using h_) (seg := [.int .i64 (wrap64 (((rd_T60 x10_3 x39_3).f0) - (ji31)))]) (j := 0) hcl43 hcc43 (show 1 ≤ 2 from by decide) (x' := (⟨wrap64 (((rd_T60 x10_3 x39_3).f0) - (ji31)), (rd_T60 x10_3 x39_3).f1⟩ : S60)) (k60_mkM _ _ _ (⟨wrap64 (((rd_T60 x10_3 x39_3).f0) - (ji31)), (rd_T60 x10_3 x39_3).f1⟩ : S60) ) (fun _ hk => hk)
               have hx43_0 := hcc43 0 _ rfl
               (try simp only [show (k60).sz = 2 from rfl, Nat.mul_one, Nat.add_zero] at hx43_0)
               have hf43_0 := hfr43 0
               (try simp only [show (k60).sz = 2 from rfl, Nat.mul_one, Nat.add_zero] at hf43_0)
               clear hcl43 hcc43 hfr43; (try clear hM43)
               try go_wp2_with (first | ((with_reducible refine gate_store (t := 3) (p := 62) rfl ?_); refine store_event (t := 3) (p := 62) (v := ?vo_w44) (w1 := (wr.setCell ⟨go37, (x39_3 : Int).toNat * 2, none⟩ (.int .i64 (wrap64 (((rd_T60 x10_3 x39_3).f0) - (ji31)))))) ?hg ?ho ?hn ?hr ?_; (case ho => rfl); (case hg => rfl); (case hn => rfl); (case hr => exact hr_); intro w44 hw; have hg : wr.grownBy w44 (some go37) := (by rw [hw]; exact HP43.2); have hp_ : Kd.R k60 60 w44 w.heap.size (fun _ => True) (.slice (some ⟨go37, 0, none⟩) x10_3.length co27) y296 := (by rw [hw, Ny296.out]; exact HP43.1); clear HP43; replace HO_11 := mk_ (Kd.R_over' (v := (.slice (some ⟨go37, 0, none⟩) x10_3.length co27)) (by exact HO_11.out) (Kd.R_typed HO_10.out) (by decide) hg); replace BK281 := mk_ (blk_grown (g := gb281) (o := .cells #[.slice A0_0 l0_0.length c0_0, .slice A0_1 l0_1.length c0_1, .slice A0_2 l0_2.length c0_2] 33 (0, 0)) (by exact BK281.out) hg (Kd.R_ne HO_10.out BK281.out (by decide))); replace BK282 := mk_ (blk_grown (g := gb282) (o := .cells #[.int .i64 a1_0, .int .i64 a1_1] 35 (0, 0)) (by exact BK282.out) hg (Kd.R_ne HO_10.out BK282.out (by decide))); replace HO_10 := mk_ (hp_); replace HB := mk_ ((by rw [hw]; exact below_set (HB.out) GB37.out : Below w.heap.size w w44)); clear hg hw hp_))
               replace HO_10 := dR_ HO_10; replace HO_11 := dR_ HO_11; replace BK281 := dB_ BK281; replace BK282 := dB_ BK282; replace HB := dH_ HB
               refine start_ (n := 5) (S := fun w' => w'.cell? ⟨gb281, 0, none⟩ = some (.slice A0_0 l0_0.length c0_0) ∧ w'.cell? ⟨gb281, 1, none⟩ = some (.slice A0_1 l0_1.length c0_1) ∧ w'.cell? ⟨gb281, 2, none⟩ = some (.slice A0_2 l0_2.length c0_2) ∧ w'.cell? ⟨gb282, 0, none⟩ = some (.int .i64 a1_0) ∧ w'.cell? ⟨gb282, 1, none⟩ = some (.int .i64 a1_1)) (ds := []) (bs_ 5 0) (by kernel_rfl) rfl (by kernel_rfl) ⟨bc0_ BK281, bc1_ BK281, bc2_ BK281, bc0_ BK282, bc1_ BK282⟩ (fun hHeld => ?_)
               generalize w44.drew = w45 at HO_10 HO_11 BK281 BK282 HB hHeld ⊢
               refine pu0_ 2 65 (bs_ 5 4) ?_; refine tk0_ 0 63 (bs_ 5 5) hHeld ?_; refine tk0_ 1 64 (bs_ 5 7) hHeld ?_
               refine one_ (i := 3) (N := some 66) (bs_ 5 15) rfl rfl (by kernel_rfl) (by decide) (fun K hK => ?_)
               refine goes_ Try.func40 (by kernel_rfl) rfl #[.agg #[.int .i64 a1_0, .int .i64 a1_1], .slice (some ⟨go37, 0, none⟩) y296.length co27] (by rfl) rfl rfl (by (try simp only [List.map_toArray, List.map_cons, List.map_nil]); first | done | (rw [show y296.length = x10_3.length from (Kd.R_reads' HO_10.out).1.symm] <;> rfl) | rfl | (simp only [List.length_drop, List.length_take]; rfl)) ?_
               with_reducible refine (impl_laden.calls k3 a1_0 a1_1 _ _ y296 t297 t298 _ ?side1 ?side2 A38.out).mono ?_
               (case side1 => exact cw_ (rr_ HO_10))
               (case side2 => rw [show y296.length = x10_3.length from (Kd.R_reads' HO_10.out).1.symm]; exact (Kd.R_reads' HO_10.out).2.1)
               rintro e w46 ⟨rfl, hb⟩
               refine ⟨_, rfl, ?_⟩
               replace HO_10 := rk_ HO_10 hb; replace HO_11 := rk_ HO_11 hb; replace BK281 := bk_ BK281 hb; replace BK282 := bk_ BK282 hb; replace HB := hk_ HB hb
               (try clear hb); (try clear hb2); (try clear hk); (try clear hi)
               refine hK.out _ _ ⟨bc0_ BK281, bc1_ BK281, bc2_ BK281, bc0_ BK282, bc1_ BK282⟩ (fun hHeld => ?_)
               clear hK K; refine nm_ ?_
               refine one_ (i := 4) (N := some 67) (bs_ 5 31) rfl rfl (by kernel_rfl) (by decide) (fun K hK => ?_)
               refine gs_ Try.func39 #[.agg #[.slice A0_0 l0_0.length c0_0, .slice A0_1 l0_1.length c0_1, .slice A0_2 l0_2.length c0_2], .agg #[.int .i64 t297, .int .i64 t298]] ?_
               with_reducible refine (impl_inside.calls k3 _ _ l0_0 _ _ l0_1 _ _ l0_2 t297 t298 true _ ?side1 ?side2 ?side3 ?side4 ?side5 ?side6 A39.out).mono ?_
               (case side1 => exact cw_ (Kd.C_below HR0_0.out HB.out))
               (case side2 => exact HC0_0.out)
               (case side3 => exact cw_ (Kd.C_below HR0_1.out HB.out))
               (case side4 => exact HC0_1.out)
               (case side5 => exact cw_ (Kd.C_below HR0_2.out HB.out))
               (case side6 => exact HC0_2.out)
               rintro e w47 ⟨rfl, hb⟩
               refine ⟨_, rfl, ?_⟩
               replace HO_10 := rk_ HO_10 hb; replace HO_11 := rk_ HO_11 hb; replace BK281 := bk_ BK281 hb; replace BK282 := bk_ BK282 hb; replace HB := hk_ HB hb
               (try clear hb); (try clear hb2); (try clear hk); (try clear hi)
               refine hK.out _ _ ⟨bc0_ BK281, bc1_ BK281, bc2_ BK281, bc0_ BK282, bc1_ BK282⟩ (fun hHeld => ?_)
               clear hK K; refine nm_ ?_
               refine done_ (by kernel_rfl) ?_
               try go_wp2_with (first | ((with_reducible refine gate_builtin (b := .append) (xs := #[.tmp 68, .tmp 72]) rfl ?_); at_builtin; refine Kd.R_append k62 (w0 := w) w.heap.size rfl (.tmp 68) (.tmp 72) 39 62 (.agg #[(.int .i64 0), (.int .i64 0)]) 16 rfl Try.underlying39 info62 rfl (by decide) (by omega) (.slice Ao42 x11_3.length co42) x11_3 (⟨x39_3, ji31⟩ : S62) [.int .i64 x39_3, .int .i64 ji31] (fun _ => True) (fun _ => False) rfl rfl ?aP (fun _ hk => hk.elim) ?aF ?aO ?aB ?aS ?aL ?_; (case aP => exact k62_mkM _ _ _ (⟨x39_3, ji31⟩ : S62) ); (case aB => exact (by exact HB.out)); (case aF => exact (fun _ _ => trivial)); (case aO => exact (by exact HO_11.out)); (case aS => exact (below_size (by exact HB.out))); (case aL => have := LMc41.out; omega); intro v301 w48 ho hb hg hat; rw [← Ny300.out] at ho; replace HO_10 := mk_ (Kd.R_over' (by exact HO_10.out) (Kd.R_typed (by exact HO_11.out)) (by decide) hg); replace BK281 := mk_ (blk_grown (g := gb281) (o := .cells #[.slice A0_0 l0_0.length c0_0, .slice A0_1 l0_1.length c0_1, .slice A0_2 l0_2.length c0_2] 33 (0, 0)) (by exact BK281.out) hg (Kd.R_ne HO_11.out BK281.out (by decide))); replace BK282 := mk_ (blk_grown (g := gb282) (o := .cells #[.int .i64 a1_0, .int .i64 a1_1] 35 (0, 0)) (by exact BK282.out) hg (Kd.R_ne HO_11.out BK282.out (by decide))); replace HB := mk_ (hb); have HO302 := mk_ (ho); clear HO_11; clear ho hb hg hat))
               (try simp only [← hl10_3])
               go_roundg k3
               case measure => have := HJ4.out; have := HK2.out; have := HK3.out; omega
               case rel => exact ⟨(y296), (y300), H', ⟨by have := HJ4.out; have := HK2.out; have := HK3.out; omega⟩, ⟨by (try simp only [hl10_3]); (with_reducible repeat (first | apply Kd.R_alloc | apply Kd.R_drewN | apply Kd.R_drew)); exact HO_10.out⟩, ⟨by (try simp only [hl10_3]); (with_reducible repeat (first | apply Kd.R_alloc | apply Kd.R_drewN | apply Kd.R_drew)); exact HO302.out⟩, ⟨by (try simp only [hl10_3]); (with_reducible repeat (first | refine blk_drewN ?_ _ | refine blk_drew ?_ | refine blk_alloc ?_ _)); exact BK281.out⟩, ⟨by (try simp only [hl10_3]); (with_reducible repeat (first | refine blk_drewN ?_ _ | refine blk_drew ?_ | refine blk_alloc ?_ _)); exact BK282.out⟩, ⟨hw_ HB⟩⟩
              ·rw [if_neg c41] at H
               exact absurd H (by simp)
             ·replace c40 := Bool.eq_false_iff.mpr c40; subst c40
              have H1 : (impl_Order.l1 k3 a3 (y296.set (x39_3 : Int).toNat (⟨wrap64 (((rd_T60 y296 x39_3).f0) + (ji31)), (rd_T60 y296 x39_3).f1⟩ : S60)) x11_3 x12_3 true (x10_2.length : Int) (wrap64 (x39_3 + 1)) l0_0 l0_1 l0_2 a1_0 a1_1) = some (r1, r2) := by rw [if_neg (show ¬ (false = true) by decide)] at H; exact H
              clear H
              have H := H1
              clear H1
              obtain ⟨y304, hy304⟩ : ∃ y_ : List (S60), y_ = (y296.set (x39_3 : Int).toNat (⟨wrap64 (((rd_T60 y296 x39_3).f0) + (ji31)), (rd_T60 y296 x39_3).f1⟩ : S60)) := ⟨_, rfl⟩
              replace H : (impl_Order.l1 k3 a3 y304 x11_3 x12_3 true (x10_2.length : Int) (wrap64 (x39_3 + 1)) l0_0 l0_1 l0_2 a1_0 a1_1) = some (r1, r2) := by first | (rw [hy304]; with_reducible exact H) | (have H2_ := (Option.bind_some _ _).symm.trans H; rw [hy304]; with_reducible exact H2_) | (have H2_ := (Option.bind_some _ _).symm.trans H; with_reducible exact H2_) | with_reducible exact H | (rw [hy304]; exact H) | exact H
              have Ny304 := mk_ hy304; clear hy304
              have H' := mk_ H
              clear H
              have p294 : 0 ≤ (x39_3 : Int) := od_
              have q294 : x39_3 < (x10_3.length : Int) := od_
              obtain ⟨ad294, e294, hx294_0, hx294_1⟩ := at_T60 (rr_ HO_10) x39_3 p294 q294; cases e294; replace p294 := eq_true p294; replace q294 := eq_true q294; obtain ⟨Ao50, co50, eo50⟩ := Kd.R_slice HO_11.out; subst eo50
              have p295 : 0 ≤ (x39_3 : Int) := od_
              have q295 : x39_3 < (x10_3.length : Int) := od_
              obtain ⟨ad295, e295, hx295_0, hx295_1⟩ := at_T60 (rr_ HO_10) x39_3 p295 q295; obtain rfl : ad294 = ad295 := (by injection e295); replace p295 := eq_true p295; replace q295 := eq_true q295
              have p37 : 0 ≤ (x39_3 : Int) := od_
              have q37 : (x39_3 : Int) < ((x10_3.length : Int) : Int) := od_
              obtain ⟨go37, co37, eo37, gb37, gl37, cl37, HG37⟩ := Kd.R_form HO_10.out (by omega)
              (first | cases eo37 | (injection eo37 with ea_ en_ ec_; (first | subst ea_ | (injection ea_ with ea_; subst ea_)); subst ec_; clear en_))
              have GB37 := mk_ gb37; have GG37 := mk_ HG37; clear gb37 gl37 HG37
              (first | simp only [add_plain] at hx294_0 | skip)
              (first | simp only [add_plain] at hx294_1 | skip)
              (first | simp only [add_plain] at hx295_0 | skip)
              (first | simp only [add_plain] at hx295_1 | skip)
              obtain ⟨ce37, hcl37, hM37, hcc37, hfr37⟩ := Kd.R_elem HO_10.out z60 (x39_3 : Int) p37 q37
              obtain rfl := k60_openM hM37
              have hx37_0 : wr.cell? ⟨go37, (x39_3 : Int).toNat * 2, none⟩ = some (.int .i64 ((rd_T60 x10_3 x39_3).f0)) := hcc37 0 _ rfl
              have hx37_1 : wr.cell? ⟨go37, (x39_3 : Int).toNat * 2 + 1, none⟩ = some (.int .i64 ((rd_T60 x10_3 x39_3).f1)) := hcc37 1 _ rfl
              have hf37_0 : wr.frozen? ⟨go37, (x39_3 : Int).toNat * 2, none⟩ = false := hfr37 0
              have hf37_1 : wr.frozen? ⟨go37, (x39_3 : Int).toNat * 2 + 1, none⟩ = false := hfr37 1
              clear hcl37 hcc37 hfr37; (try clear hM37); replace p37 := eq_true p37; replace q37 := eq_true q37; have HX51 := mk_ (show Kd.R k60 60 wr w.heap.size (fun _ => True) (.slice (some ⟨go37, 0, none⟩) x10_3.length co27) x10_3 from (by exact HO_10.out))
              obtain ⟨ce51, hcl51, hM51, hcc51, hfr51⟩ := Kd.R_elem HX51.out z60 (x39_3 : Int) (od_) (by have h_ : (x39_3 : Int) < ((x10_3.length : Int) : Int) := od_; first | exact h_ | (have e_ := (Kd.R_reads' HO_10.out).1; omega) | simpa using h_)
              obtain rfl := k60_openM hM51
              have HP51 := Kd.R_seg HX51.out (x39_3 : Int) (od_) (by have h_ : (x39_3 : Int) < ((x10_3.length : Int) : Int) := od_; first | exact h_ | (have e_ := (Kd.R_reads' HO_10.out).1; omega) | simpa using h_) (seg := [.int .i64 (wrap64 (((rd_T60 x10_3 x39_3).f0) - (ji31)))]) (j := 0) hcl51 hcc51 (show 1 ≤ 2 from by decide) (x' := (⟨wrap64 (((rd_T60 x10_3 x39_3).f0) - (ji31)), (rd_T60 x10_3 x39_3).f1⟩ : S60)) (k60_mkM _ _ _ (⟨wrap64 (((rd_T60 x10_3 x39_3).f0) - (ji31)), (rd_T60 x10_3 x39_3).f1⟩ : S60) ) (fun _ hk => hk)
              have hx51_0 := hcc51 0 _ rfl
              (try simp only [show (k60).sz = 2 from rfl, Nat.mul_one, Nat.add_zero] at hx51_0)
              have hf51_0 := hfr51 0
              (try simp only [show (k60).sz = 2 from rfl, Nat.mul_one, Nat.add_zero] at hf51_0)
              clear hcl51 hcc51 hfr51; (try clear hM51)
              try go_wp2_with (first | ((with_reducible refine gate_store (t := 3) (p := 62) rfl ?_); refine store_event (t := 3) (p := 62) (v := ?vo_w52) (w1 := (wr.setCell ⟨go37, (x39_3 : Int).toNat * 2, none⟩ (.int .i64 (wrap64 (((rd_T60 x10_3 x39_3).f0) - (ji31)))))) ?hg ?ho ?hn ?hr ?_; (case ho => rfl); (case hg => rfl); (case hn => rfl); (case hr => exact hr_); intro w52 hw; have hg : wr.grownBy w52 (some go37) := (by rw [hw]; exact HP51.2); have hp_ : Kd.R k60 60 w52 w.heap.size (fun _ => True) (.slice (some ⟨go37, 0, none⟩) x10_3.length co27) y296 := (by rw [hw, Ny296.out]; exact HP51.1); clear HP51; replace HO_11 := mk_ (Kd.R_over' (v := (.slice (some ⟨go37, 0, none⟩) x10_3.length co27)) (by exact HO_11.out) (Kd.R_typed HO_10.out) (by decide) hg); replace BK281 := mk_ (blk_grown (g := gb281) (o := .cells #[.slice A0_0 l0_0.length c0_0, .slice A0_1 l0_1.length c0_1, .slice A0_2 l0_2.length c0_2] 33 (0, 0)) (by exact BK281.out) hg (Kd.R_ne HO_10.out BK281.out (by decide))); replace BK282 := mk_ (blk_grown (g := gb282) (o := .cells #[.int .i64 a1_0, .int .i64 a1_1] 35 (0, 0)) (by exact BK282.out) hg (Kd.R_ne HO_10.out BK282.out (by decide))); replace HO_10 := mk_ (hp_); replace HB := mk_ ((by rw [hw]; exact below_set (HB.out) GB37.out : Below w.heap.size w w52)); clear hg hw hp_))
              replace HO_10 := dR_ HO_10; replace HO_11 := dR_ HO_11; replace BK281 := dB_ BK281; replace BK282 := dB_ BK282; replace HB := dH_ HB
              refine start_ (n := 5) (S := fun w' => w'.cell? ⟨gb281, 0, none⟩ = some (.slice A0_0 l0_0.length c0_0) ∧ w'.cell? ⟨gb281, 1, none⟩ = some (.slice A0_1 l0_1.length c0_1) ∧ w'.cell? ⟨gb281, 2, none⟩ = some (.slice A0_2 l0_2.length c0_2) ∧ w'.cell? ⟨gb282, 0, none⟩ = some (.int .i64 a1_0) ∧ w'.cell? ⟨gb282, 1, none⟩ = some (.int .i64 a1_1)) (ds := []) (bs_ 5 0) (by kernel_rfl) rfl (by kernel_rfl) ⟨bc0_ BK281, bc1_ BK281, bc2_ BK281, bc0_ BK282, bc1_ BK282⟩ (fun hHeld => ?_)
              generalize w52.drew = w53 at HO_10 HO_11 BK281 BK282 HB hHeld ⊢
              refine pu0_ 2 65 (bs_ 5 4) ?_; refine tk0_ 0 63 (bs_ 5 5) hHeld ?_; refine tk0_ 1 64 (bs_ 5 7) hHeld ?_
              refine one_ (i := 3) (N := some 66) (bs_ 5 15) rfl rfl (by kernel_rfl) (by decide) (fun K hK => ?_)
              refine goes_ Try.func40 (by kernel_rfl) rfl #[.agg #[.int .i64 a1_0, .int .i64 a1_1], .slice (some ⟨go37, 0, none⟩) y296.length co27] (by rfl) rfl rfl (by (try simp only [List.map_toArray, List.map_cons, List.map_nil]); first | done | (rw [show y296.length = x10_3.length from (Kd.R_reads' HO_10.out).1.symm] <;> rfl) | rfl | (simp only [List.length_drop, List.length_take]; rfl)) ?_
              with_reducible refine (impl_laden.calls k3 a1_0 a1_1 _ _ y296 t297 t298 _ ?side1 ?side2 A38.out).mono ?_
              (case side1 => exact cw_ (rr_ HO_10))
              (case side2 => rw [show y296.length = x10_3.length from (Kd.R_reads' HO_10.out).1.symm]; exact (Kd.R_reads' HO_10.out).2.1)
              rintro e w54 ⟨rfl, hb⟩
              refine ⟨_, rfl, ?_⟩
              replace HO_10 := rk_ HO_10 hb; replace HO_11 := rk_ HO_11 hb; replace BK281 := bk_ BK281 hb; replace BK282 := bk_ BK282 hb; replace HB := hk_ HB hb
              (try clear hb); (try clear hb2); (try clear hk); (try clear hi)
              refine hK.out _ _ ⟨bc0_ BK281, bc1_ BK281, bc2_ BK281, bc0_ BK282, bc1_ BK282⟩ (fun hHeld => ?_)
              clear hK K; refine nm_ ?_
              refine one_ (i := 4) (N := some 67) (bs_ 5 31) rfl rfl (by kernel_rfl) (by decide) (fun K hK => ?_)
              refine gs_ Try.func39 #[.agg #[.slice A0_0 l0_0.length c0_0, .slice A0_1 l0_1.length c0_1, .slice A0_2 l0_2.length c0_2], .agg #[.int .i64 t297, .int .i64 t298]] ?_
              with_reducible refine (impl_inside.calls k3 _ _ l0_0 _ _ l0_1 _ _ l0_2 t297 t298 false _ ?side1 ?side2 ?side3 ?side4 ?side5 ?side6 A39.out).mono ?_
              (case side1 => exact cw_ (Kd.C_below HR0_0.out HB.out))
              (case side2 => exact HC0_0.out)
              (case side3 => exact cw_ (Kd.C_below HR0_1.out HB.out))
              (case side4 => exact HC0_1.out)
              (case side5 => exact cw_ (Kd.C_below HR0_2.out HB.out))
              (case side6 => exact HC0_2.out)
              rintro e w55 ⟨rfl, hb⟩
              refine ⟨_, rfl, ?_⟩
              replace HO_10 := rk_ HO_10 hb; replace HO_11 := rk_ HO_11 hb; replace BK281 := bk_ BK281 hb; replace BK282 := bk_ BK282 hb; replace HB := hk_ HB hb
              (try clear hb); (try clear hb2); (try clear hk); (try clear hi)
              refine hK.out _ _ ⟨bc0_ BK281, bc1_ BK281, bc2_ BK281, bc0_ BK282, bc1_ BK282⟩ (fun hHeld => ?_)
              clear hK K; refine nm_ ?_
              refine done_ (by kernel_rfl) ?_
              have p303 : 0 ≤ (x39_3 : Int) := od_
              have q303 : x39_3 < (y296.length : Int) := (by have h_ : (x39_3 : Int) < ((x10_3.length : Int) : Int) := od_; first | (have e_ := (Kd.R_reads' HO_10.out).1; omega) | simpa only [Ny296.out, List.length_set] using h_)
              have ql303 : ((x39_3 : Int) < ((x10_3.length : Int) : Int)) = True := eq_true (od_)
              obtain ⟨ad303, e303, hx303_0, hx303_1⟩ := at_T60 (rr_ HO_10) x39_3 p303 q303
              obtain rfl : (⟨go37, 0, none⟩ : Addr) = ad303 := (by injection e303)
              (first | simp only [add_plain] at hx303_0 | simp only [add_at] at hx303_0 | simp only [Addr.add, Nat.zero_add] at hx303_0 | skip)
              (first | simp only [add_plain] at hx303_1 | simp only [add_at] at hx303_1 | simp only [Addr.add, Nat.zero_add] at hx303_1 | skip)
              replace p303 := eq_true p303; replace q303 := eq_true q303
              have p49 : 0 ≤ (x39_3 : Int) := od_
              have q49 : (x39_3 : Int) < ((x10_3.length : Int) : Int) := od_
              obtain ⟨ce49, hcl49, hM49, hcc49, hfr49⟩ := Kd.R_elem HO_10.out z60 (x39_3 : Int) p49 q49
              obtain rfl := k60_openM hM49
              have hx49_0 : w55.cell? ⟨go37, (x39_3 : Int).toNat * 2, none⟩ = some (.int .i64 ((rd_T60 y296 x39_3).f0)) := hcc49 0 _ rfl
              have hx49_1 : w55.cell? ⟨go37, (x39_3 : Int).toNat * 2 + 1, none⟩ = some (.int .i64 ((rd_T60 y296 x39_3).f1)) := hcc49 1 _ rfl
              have hf49_0 : w55.frozen? ⟨go37, (x39_3 : Int).toNat * 2, none⟩ = false := hfr49 0
              have hf49_1 : w55.frozen? ⟨go37, (x39_3 : Int).toNat * 2 + 1, none⟩ = false := hfr49 1
              clear hcl49 hcc49 hfr49; (try clear hM49); replace p49 := eq_true p49; replace q49 := eq_true q49; have HX56 := mk_ (show Kd.R k60 60 w55 w.heap.size (fun _ => True) (.slice (some ⟨go37, 0, none⟩) x10_3.length co27) y296 from (by exact HO_10.out))
              obtain ⟨ce56, hcl56, hM56, hcc56, hfr56⟩ := Kd.R_elem HX56.out z60 (x39_3 : Int) (od_) (by have h_ : (x39_3 : Int) < ((x10_3.length : Int) : Int) := od_; first | exact h_ | (have e_ := (Kd.R_reads' HO_10.out).1; omega) | simpa using h_)
              obtain rfl := k60_openM hM56
              have HP56 := Kd.R_seg HX56.out (x39_3 : Int) (od_) (by have h_ : (x39_3 : Int) < ((x10_3.length : Int) : Int) := od_; first | exact h_ | (have e_ := (Kd.R_reads' HO_10.out).1; omega) | simpa using h_) (seg := [.int .i64 (wrap64 (((rd_T60 y296 x39_3).f0) + (ji31)))]) (j := 0) hcl56 hcc56 (show 1 ≤ 2 from by decide) (x' := (⟨wrap64 (((rd_T60 y296 x39_3).f0) + (ji31)), (rd_T60 y296 x39_3).f1⟩ : S60)) (k60_mkM _ _ _ (⟨wrap64 (((rd_T60 y296 x39_3).f0) + (ji31)), (rd_T60 y296 x39_3).f1⟩ : S60) ) (fun _ hk => hk)
              have hx56_0 := hcc56 0 _ rfl
              (try simp only [show (k60).sz = 2 from rfl, Nat.mul_one, Nat.add_zero] at hx56_0)
              have hf56_0 := hfr56 0
              (try simp only [show (k60).sz = 2 from rfl, Nat.mul_one, Nat.add_zero] at hf56_0)
              clear hcl56 hcc56 hfr56; (try clear hM56)
              try go_wp2_with (first | ((with_reducible refine gate_store (t := 3) (p := 82) rfl ?_); refine store_event (t := 3) (p := 82) (v := ?vo_w57) (w1 := (w55.setCell ⟨go37, (x39_3 : Int).toNat * 2, none⟩ (.int .i64 (wrap64 (((rd_T60 y296 x39_3).f0) + (ji31)))))) ?hg ?ho ?hn ?hr ?_; (case ho => rfl); (case hg => rfl); (case hn => rfl); (case hr => exact hr_); intro w57 hw; have hg : w55.grownBy w57 (some go37) := (by rw [hw]; exact HP56.2); have hp_ : Kd.R k60 60 w57 w.heap.size (fun _ => True) (.slice (some ⟨go37, 0, none⟩) x10_3.length co27) y304 := (by rw [hw, Ny304.out]; exact HP56.1); clear HP56; replace HO_11 := mk_ (Kd.R_over' (v := (.slice (some ⟨go37, 0, none⟩) x10_3.length co27)) (by exact HO_11.out) (Kd.R_typed HO_10.out) (by decide) hg); replace BK281 := mk_ (blk_grown (g := gb281) (o := .cells #[.slice A0_0 l0_0.length c0_0, .slice A0_1 l0_1.length c0_1, .slice A0_2 l0_2.length c0_2] 33 (0, 0)) (by exact BK281.out) hg (Kd.R_ne HO_10.out BK281.out (by decide))); replace BK282 := mk_ (blk_grown (g := gb282) (o := .cells #[.int .i64 a1_0, .int .i64 a1_1] 35 (0, 0)) (by exact BK282.out) hg (Kd.R_ne HO_10.out BK282.out (by decide))); replace HO_10 := mk_ (hp_); replace HB := mk_ ((by rw [hw]; exact below_set (HB.out) GB37.out : Below w.heap.size w w57)); clear hg hw hp_))
              (try simp only [← hl10_3])
              go_roundg k3
              case measure => have := HJ4.out; have := HK2.out; have := HK3.out; omega
              case rel => exact ⟨(y304), (x11_3), (x12_3), (true), (wrap64 (x39_3 + 1)), rf_, rf_, rf_, H', ⟨by have := HJ4.out; have := HK2.out; have := HK3.out; omega⟩, ⟨by (try simp only [hl10_3]); (with_reducible repeat (first | apply Kd.R_alloc | apply Kd.R_drewN | apply Kd.R_drew)); exact HO_10.out⟩, ⟨by (try simp only [hl10_3]); (with_reducible repeat (first | apply Kd.R_alloc | apply Kd.R_drewN | apply Kd.R_drew)); exact HO_11.out⟩, ⟨by (try simp only [hl10_3]); (with_reducible repeat (first | refine blk_drewN ?_ _ | refine blk_drew ?_ | refine blk_alloc ?_ _)); exact BK281.out⟩, ⟨by (try simp only [hl10_3]); (with_reducible repeat (first | refine blk_drewN ?_ _ | refine blk_drew ?_ | refine blk_alloc ?_ _)); exact BK282.out⟩, ⟨hw_ HB⟩⟩
          ·rw [if_neg c30] at H
           exact absurd H (by simp)
         ·rw [if_neg c29] at H
          exact absurd H (by simp)
        ·rw [if_neg c28] at H; have c28b0 : decide (x39_3 < (x10_2.length : Int)) = false := decide_eq_false c28
         (try (have c28h3 := c28b0; rw [hl10_3] at c28h3))
         clear c28; by_cases c58 : x12_3 = true
         ·subst c58
          have H1 : (impl_Order.l0 k3 a3 x10_3 x11_3 l0_0 l0_1 l0_2 a1_0 a1_1) = some (r1, r2) := by rw [if_pos rfl] at H; exact H
          clear H
          have H := H1
          clear H1
          have H' := mk_ H
          clear H; go_wp2
          (try simp only [← hl10_3])
          go_roundg k3
          case measure => have := HJ4.out; have := HK2.out; have := HK3.out; omega
          case rel => exact ⟨(x10_3), (x11_3), H', ⟨by have := HJ4.out; have := HK2.out; have := HK3.out; omega⟩, ⟨by (try simp only [hl10_3]); (with_reducible repeat (first | apply Kd.R_alloc | apply Kd.R_drewN | apply Kd.R_drew)); exact HO_10.out⟩, ⟨by (try simp only [hl10_3]); (with_reducible repeat (first | apply Kd.R_alloc | apply Kd.R_drewN | apply Kd.R_drew)); exact HO_11.out⟩, ⟨by (try simp only [hl10_3]); (with_reducible repeat (first | refine blk_drewN ?_ _ | refine blk_drew ?_ | refine blk_alloc ?_ _)); exact BK281.out⟩, ⟨by (try simp only [hl10_3]); (with_reducible repeat (first | refine blk_drewN ?_ _ | refine blk_drew ?_ | refine blk_alloc ?_ _)); exact BK282.out⟩, ⟨hw_ HB⟩⟩
         ·replace c58 := Bool.eq_false_iff.mpr c58; subst c58
          have H1 : (some (x11_3, !x13_3)) = some (r1, r2) := by rw [if_neg (show ¬ (false = true) by decide)] at H; exact H
          clear H
          have H := H1
          clear H1
          simp only [Option.some.injEq, Prod.mk.injEq] at H
          obtain ⟨rfl, rfl⟩ := H; go_wp2
          go_ret2
          exact ⟨_, re_, by (with_reducible repeat (first | apply Kd.R_alloc | apply Kd.R_drewN | apply Kd.R_drew)); exact HO_11.out, hw_ HB⟩

end Go.Proofs.Yteedbciobdcmaaa.QFnExactOrder
-- squeezed
