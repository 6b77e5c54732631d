/- Lean functions that tell what the Go functions used by one law answer, and for each a proof that the Go code comes to just these answers; no condition. Printed by this session's own program over the kit's printer. -/
import Derived.Test.YtkginilghcepbaaWSq
import Derived.Test.YtkginilghcepbaaQFnFlownx0
import Derived.Test.YtkginilghcepbaaQFnFlownx2
namespace Go.Proofs.Ytkginilghcepbaa.QFnFlown
open Go.RowKit Go.Proofs.YtkginilghcepbaaW.PrintWords Go.Proofs.YtkginilghcepbaaW.PrintLast Go.Proofs.YtkginilghcepbaaW.PrintMore
attribute [local go_sem] max2_int min2_int max_two min_two max_three min_three max_four min_four   -- for this text's walks alone
attribute [local go_sem high] go_eql go_neq go_lss go_leq go_gtr go_geq go_store   -- for this text's walks alone
set_option linter.unusedVariables false
set_option linter.unusedSimpArgs false

/-! ### spec_l4DrawFloat: function 101 -/
mutual
def spec_l4DrawFloat.l0 : Nat → Fl → Int → List Int → Int → Int → Option (Fl × Int × Int)
 | 0, _, _, _, _, _ => none
 | k + 1, x3, x4, d5, d6, d7 => if x4 > 0 then (spec_l4DrawFloat.l0 k (fop .mul .f32 x3 (cn .f32 1082130432)) (wrap64 (x4 - 1)) d5 d6 d7) else (some (x3, d6, d7))
def spec_l4DrawFloat.l1 : Nat → Fl → Int → List Int → Int → Int → Option (Fl × Int × Int)
 | 0, _, _, _, _, _ => none
 | k + 1, x5, x6, d5, d6, d7 => if x6 > 0 then (spec_l4DrawFloat.l1 k (fop .quo .f32 x5 (cn .f32 1082130432)) (wrap64 (x6 - 1)) d5 d6 d7) else (some (x5, d6, d7))
def spec_l4DrawFloat.j2 : Nat → Bool → List Int → Int → Int → Option (Fl × Int × Int)
 | 0, _, _, _, _ => none
 | k + 1, O3, d5, d6, d7 => if O3 = true then ((spec_l1Below.f d5 d6 d7 81).bind fun j8 => (some ((fop .quo .f32 (fint .f32 (wrap64 (j8.1 - 40))) (cn .f32 1090519040)), j8.2.1, j8.2.2))) else ((spec_l1Below.f d5 d6 d7 21).bind fun j9 => (some ((fint .f32 (wrap64 (j9.1 - 10))), j9.2.1, j9.2.2)))
end
def spec_l4DrawFloat.f (k : Nat) (s0_0 : List Int) (s0_1 : Int) (s0_2 : Int) : Option (Fl × Int × Int) := (spec_l1Below.f s0_0 s0_1 s0_2 9).bind fun a7 => (if a7.1 = 0 then ((spec_l1Below.f s0_0 a7.2.1 a7.2.2 2001).bind fun g3 => (some ((fop .quo .f32 (fint .f32 (wrap64 (g3.1 - 1000))) (cn .f32 1088421888)), g3.2.1, g3.2.2))) else (if a7.1 = 1 then ((spec_l1Below.f s0_0 a7.2.1 a7.2.2 2001).bind fun g4 => ((spec_l1Below.f s0_0 g4.2.1 g4.2.2 60).bind fun a9 => (spec_l4DrawFloat.l0 k (fop .quo .f32 (fint .f32 (wrap64 (g4.1 - 1000))) (cn .f32 1077936128)) a9.1 s0_0 a9.2.1 a9.2.2))) else (if a7.1 = 2 then ((spec_l1Below.f s0_0 a7.2.1 a7.2.2 2001).bind fun g5 => ((spec_l1Below.f s0_0 g5.2.1 g5.2.2 80).bind fun b4 => (spec_l4DrawFloat.l1 k (fop .quo .f32 (fint .f32 (wrap64 (g5.1 - 1000))) (cn .f32 1077936128)) b4.1 s0_0 b4.2.1 b4.2.2))) else (if a7.1 = 3 then ((spec_l1Once.f s0_0 a7.2.1 a7.2.2 5).bind fun c2 => (if c2.1 = true then ((spec_l1Below.f s0_0 c2.2.1 c2.2.2 4).bind fun b7 => ((spec_l4Odd.f b7.1 (cn .f32 0)).bind fun h8 => (some (h8, b7.2.1, b7.2.2)))) else ((spec_l1Below.f s0_0 c2.2.1 c2.2.2 21).bind fun b8 => (some ((fint .f32 (wrap64 (b8.1 - 10))), b8.2.1, b8.2.2))))) else (if a7.1 = 4 then (spec_l4DrawFloat.j2 k true s0_0 a7.2.1 a7.2.2) else (spec_l4DrawFloat.j2 k (a7.1 == 5) s0_0 a7.2.1 a7.2.2))))))
theorem spec_l4DrawFloat.mono_l : ∀ k, (∀ y0 y1 y2 y3 y4, LeO (spec_l4DrawFloat.l0 k y0 y1 y2 y3 y4) (spec_l4DrawFloat.l0 (k + 1) y0 y1 y2 y3 y4)) ∧ (∀ y0 y1 y2 y3 y4, LeO (spec_l4DrawFloat.l1 k y0 y1 y2 y3 y4) (spec_l4DrawFloat.l1 (k + 1) y0 y1 y2 y3 y4)) ∧ (∀ y0 y1 y2 y3, LeO (spec_l4DrawFloat.j2 k y0 y1 y2 y3) (spec_l4DrawFloat.j2 (k + 1) y0 y1 y2 y3))
 | 0 => ⟨fun _ _ _ _ _ r h => by simp [spec_l4DrawFloat.l0] at h, fun _ _ _ _ _ r h => by simp [spec_l4DrawFloat.l1] at h, fun _ _ _ _ r h => by simp [spec_l4DrawFloat.j2] at h⟩
 | k + 1 => by
  obtain ⟨m1, m2, q6⟩ := spec_l4DrawFloat.mono_l k
  refine ⟨?_, ?_, ?_⟩
  ·intro y0 y1 y2 y3 y4
   unfold spec_l4DrawFloat.l0
   repeat' first
   | (with_reducible exact m1 _ _ _ _ _)
   | (with_reducible exact m2 _ _ _ _ _)
   | (with_reducible exact q6 _ _ _ _)
   | (with_reducible exact LeO.refl _)
   | (with_reducible exact LeO.none _)
   | (with_reducible refine LeO.ite ?_ ?_)
   | (with_reducible refine LeO.bind ?_ (fun _ => ?_))
   | exact m1 _ _ _ _ _
   | exact m2 _ _ _ _ _
   | exact q6 _ _ _ _
   | exact LeO.none _
   | refine LeO.ite ?_ ?_
   | refine LeO.bind ?_ (fun _ => ?_)
  ·intro y0 y1 y2 y3 y4
   unfold spec_l4DrawFloat.l1
   repeat' first
   | (with_reducible exact m1 _ _ _ _ _)
   | (with_reducible exact m2 _ _ _ _ _)
   | (with_reducible exact q6 _ _ _ _)
   | (with_reducible exact LeO.refl _)
   | (with_reducible exact LeO.none _)
   | (with_reducible refine LeO.ite ?_ ?_)
   | (with_reducible refine LeO.bind ?_ (fun _ => ?_))
   | exact m1 _ _ _ _ _
   | exact m2 _ _ _ _ _
   | exact q6 _ _ _ _
   | exact LeO.none _
   | refine LeO.ite ?_ ?_
   | refine LeO.bind ?_ (fun _ => ?_)
  ·intro y0 y1 y2 y3
   unfold spec_l4DrawFloat.j2
   repeat' first
   | (with_reducible exact m1 _ _ _ _ _)
   | (with_reducible exact m2 _ _ _ _ _)
   | (with_reducible exact q6 _ _ _ _)
   | (with_reducible exact LeO.refl _)
   | (with_reducible exact LeO.none _)
   | (with_reducible refine LeO.ite ?_ ?_)
   | (with_reducible refine LeO.bind ?_ (fun _ => ?_))
   | exact m1 _ _ _ _ _
   | exact m2 _ _ _ _ _
   | exact q6 _ _ _ _
   | exact LeO.none _
   | refine LeO.ite ?_ ?_
   | refine LeO.bind ?_ (fun _ => ?_)
theorem spec_l4DrawFloat.mono : ∀ a0 a1 a2 k, LeO (spec_l4DrawFloat.f k a0 a1 a2) (spec_l4DrawFloat.f (k + 1) a0 a1 a2) := by
 intro a0 a1 a2 k
 obtain ⟨m1, m2, q6⟩ := spec_l4DrawFloat.mono_l k
 unfold spec_l4DrawFloat.f
 repeat' first
   | (with_reducible exact m1 _ _ _ _ _)
   | (with_reducible exact m2 _ _ _ _ _)
   | (with_reducible exact q6 _ _ _ _)
   | (with_reducible exact LeO.refl _)
   | (with_reducible exact LeO.none _)
   | (with_reducible refine LeO.ite ?_ ?_)
   | (with_reducible refine LeO.bind ?_ (fun _ => ?_))
   | exact m1 _ _ _ _ _
   | exact m2 _ _ _ _ _
   | exact q6 _ _ _ _
   | exact LeO.none _
   | refine LeO.ite ?_ ?_
   | refine LeO.bind ?_ (fun _ => ?_)
set_option maxHeartbeats 8000000 in
set_option maxRecDepth 100000 in
theorem spec_l4DrawFloat.calls (k : Nat) (g : Nat) (s0_0 : List Int) (s0_1 : Int) (s0_2 : Int) (r1 : Fl) (r2 : Int) (r3 : Int) (w0 w : World) (hI : IsS141 w0 w g s0_0 s0_1 s0_2) (hB : Below w0.heap.size w0 w) (h : spec_l4DrawFloat.f k s0_0 s0_1 s0_2 = some (r1, r2, r3)) :
  Calls Try.prog 101 #[.pointer (some ⟨g, 0, none⟩)] w fun e w' => ∃ b_r1 : Nat, e = .returned (.float .f32 b_r1) ∧ cn .f32 b_r1 = r1 ∧ IsS141 w0 w' g s0_0 r2 r3 ∧ Below w0.heap.size w0 w' ∧ KeepBut w w' g none := by
 have a5 := mk_ hI; have HK := mk_ (KeepBut.refl w g none); have HL := mk_ hB.size; clear hI; have HW0 := mk_ hB.size; have HB := mk_ hB; clear hB
 have H : ((spec_l1Below.f s0_0 s0_1 s0_2 9).bind fun a7 => (if a7.1 = 0 then ((spec_l1Below.f s0_0 a7.2.1 a7.2.2 2001).bind fun g3 => (some ((fop .quo .f32 (fint .f32 (wrap64 (g3.1 - 1000))) (cn .f32 1088421888)), g3.2.1, g3.2.2))) else (if a7.1 = 1 then ((spec_l1Below.f s0_0 a7.2.1 a7.2.2 2001).bind fun g4 => ((spec_l1Below.f s0_0 g4.2.1 g4.2.2 60).bind fun a9 => (spec_l4DrawFloat.l0 k (fop .quo .f32 (fint .f32 (wrap64 (g4.1 - 1000))) (cn .f32 1077936128)) a9.1 s0_0 a9.2.1 a9.2.2))) else (if a7.1 = 2 then ((spec_l1Below.f s0_0 a7.2.1 a7.2.2 2001).bind fun g5 => ((spec_l1Below.f s0_0 g5.2.1 g5.2.2 80).bind fun b4 => (spec_l4DrawFloat.l1 k (fop .quo .f32 (fint .f32 (wrap64 (g5.1 - 1000))) (cn .f32 1077936128)) b4.1 s0_0 b4.2.1 b4.2.2))) else (if a7.1 = 3 then ((spec_l1Once.f s0_0 a7.2.1 a7.2.2 5).bind fun c2 => (if c2.1 = true then ((spec_l1Below.f s0_0 c2.2.1 c2.2.2 4).bind fun b7 => ((spec_l4Odd.f b7.1 (cn .f32 0)).bind fun h8 => (some (h8, b7.2.1, b7.2.2)))) else ((spec_l1Below.f s0_0 c2.2.1 c2.2.2 21).bind fun b8 => (some ((fint .f32 (wrap64 (b8.1 - 10))), b8.2.1, b8.2.2))))) else (if a7.1 = 4 then (spec_l4DrawFloat.j2 k true s0_0 a7.2.1 a7.2.2) else (spec_l4DrawFloat.j2 k (a7.1 == 5) s0_0 a7.2.1 a7.2.2))))))) = some (r1, r2, r3) := h
 clear h; replace H := Option.bind_eq_some_iff.mp H; obtain ⟨⟨a8, c6, c9⟩, o5, H⟩ := H
 replace H : (if a8 = 0 then ((spec_l1Below.f s0_0 c6 c9 2001).bind fun g3 => (some ((fop .quo .f32 (fint .f32 (wrap64 (g3.1 - 1000))) (cn .f32 1088421888)), g3.2.1, g3.2.2))) else (if a8 = 1 then ((spec_l1Below.f s0_0 c6 c9 2001).bind fun g4 => ((spec_l1Below.f s0_0 g4.2.1 g4.2.2 60).bind fun a9 => (spec_l4DrawFloat.l0 k (fop .quo .f32 (fint .f32 (wrap64 (g4.1 - 1000))) (cn .f32 1077936128)) a9.1 s0_0 a9.2.1 a9.2.2))) else (if a8 = 2 then ((spec_l1Below.f s0_0 c6 c9 2001).bind fun g5 => ((spec_l1Below.f s0_0 g5.2.1 g5.2.2 80).bind fun b4 => (spec_l4DrawFloat.l1 k (fop .quo .f32 (fint .f32 (wrap64 (g5.1 - 1000))) (cn .f32 1077936128)) b4.1 s0_0 b4.2.1 b4.2.2))) else (if a8 = 3 then ((spec_l1Once.f s0_0 c6 c9 5).bind fun c2 => (if c2.1 = true then ((spec_l1Below.f s0_0 c2.2.1 c2.2.2 4).bind fun b7 => ((spec_l4Odd.f b7.1 (cn .f32 0)).bind fun h8 => (some (h8, b7.2.1, b7.2.2)))) else ((spec_l1Below.f s0_0 c2.2.1 c2.2.2 21).bind fun b8 => (some ((fint .f32 (wrap64 (b8.1 - 10))), b8.2.1, b8.2.2))))) else (if a8 = 4 then (spec_l4DrawFloat.j2 k true s0_0 c6 c9) else (spec_l4DrawFloat.j2 k (a8 == 5) s0_0 c6 c9)))))) = some (r1, r2, r3) := H
 have A2 := mk_ o5; clear o5; by_cases c3 : a8 = 0
 ·rw [if_pos c3] at H; have q7 : (a8 == 0) = true := beq_iff_eq.mpr c3; have q8 : (a8 != 0) = false := bne_eq_false_iff_eq.mpr c3; clear c3; replace H := Option.bind_eq_some_iff.mp H; obtain ⟨⟨q9, s0, s1⟩, o1, H⟩ := H
  replace H : (some ((fop .quo .f32 (fint .f32 (wrap64 (q9 - 1000))) (cn .f32 1088421888)), s0, s1)) = some (r1, r2, r3) := H
  have A4 := mk_ o1; clear o1
  obtain ⟨ft134, hft134⟩ : ∃ y_ : Fl, y_ = (fint .f32 (wrap64 (q9 - 1000))) := ⟨_, rfl⟩
  replace H : (some ((fop .quo .f32 ft134 (cn .f32 1088421888)), s0, s1)) = some (r1, r2, r3) := by first | (rw [hft134]; with_reducible exact H) | (have H2_ := (Option.bind_some _ _).symm.trans H; rw [hft134]; with_reducible exact H2_) | (have H2_ := (Option.bind_some _ _).symm.trans H; with_reducible exact H2_) | with_reducible exact H | (rw [hft134]; exact H) | exact H
  have Nft134 := mk_ hft134; clear hft134
  obtain ⟨ft135, hft135⟩ : ∃ y_ : Fl, y_ = (fop .quo .f32 ft134 (cn .f32 1088421888)) := ⟨_, rfl⟩
  replace H : (some (ft135, s0, s1)) = some (r1, r2, r3) := by first | (rw [hft135]; with_reducible exact H) | (have H2_ := (Option.bind_some _ _).symm.trans H; rw [hft135]; with_reducible exact H2_) | (have H2_ := (Option.bind_some _ _).symm.trans H; with_reducible exact H2_) | with_reducible exact H | (rw [hft135]; exact H) | exact H
  have Nft135 := mk_ hft135; clear hft135
  simp only [Option.some.injEq, Prod.mk.injEq] at H
  obtain ⟨rfl, rfl, rfl⟩ := H
  go_enter Try.func101, Try.ntmps101
  go_wp2_with (first | ((with_reducible refine gc_ 96 rfl ?_); refine gl_ (some 9) rfl Try.func96 #[.pointer (some ⟨g, 0, none⟩), .int .i64 9] ?_; (with_reducible refine (spec_l1Below.calls g s0_0 s0_1 s0_2 9 a8 c6 c9 w0 _ ?a4 ?a6 A2.out).mono ?_); (case a4 => repeat (first | (with_reducible first | exact a5.out | apply IsS141.alloc | apply IsS141.drewN | apply IsS141.drew | apply IsS141.set_1 | apply IsS141.set_2) | exact a5.out)); (case a6 => exact HB.out); rintro e w5 ⟨rfl, hi, hb, hk⟩; refine ⟨_, rfl, ?_⟩; replace HK := mk_ (KeepBut.trans (by repeat (first | (with_reducible first | exact HK.out | apply KeepBut.set_ | apply keep_drewN | apply keep_drew | apply keep_alloc) | exact HK.out)) hk (.inl rfl)); replace HB := mk_ (hb); replace a5 := mk_ (hi); (try clear hb); (try clear g2); (try clear hk); (try clear hi)) | ((with_reducible refine gc_ 96 rfl ?_); refine gl_ (some 13) rfl Try.func96 #[.pointer (some ⟨g, 0, none⟩), .int .i64 2001] ?_; (with_reducible refine (spec_l1Below.calls g s0_0 c6 c9 2001 q9 s0 s1 w0 _ ?a4 ?a6 A4.out).mono ?_); (case a4 => repeat (first | (with_reducible first | exact a5.out | apply IsS141.alloc | apply IsS141.drewN | apply IsS141.drew | apply IsS141.set_1 | apply IsS141.set_2) | exact a5.out)); (case a6 => exact HB.out); rintro e w6 ⟨rfl, hi, hb, hk⟩; refine ⟨_, rfl, ?_⟩; replace HK := mk_ (KeepBut.trans (by repeat (first | (with_reducible first | exact HK.out | apply KeepBut.set_ | apply keep_drewN | apply keep_drew | apply keep_alloc) | exact HK.out)) hk (.inl rfl)); replace HB := mk_ (hb); replace a5 := mk_ (hi); (try clear hb); (try clear g2); (try clear hk); (try clear hi)) | ((with_reducible refine gd_ 15 rfl ?_); refine fint_event rfl (N := 15) rfl rfl .f32 .i64 (wrap64 (q9 - 1000)) Try.underlying3 Try.underlying144 rfl ?_; intro b_ft134 nf_ hF_; replace hF_ := hF_.trans Nft134.out.symm; have hF_ft134 := hF_; clear hF_) | ((with_reducible refine gd_ 16 rfl ?_); refine fop_event rfl (N := 16) rfl (op := .quo) (by simp) rfl .f32 b_ft134 1088421888 ft134 (cn .f32 1088421888) rfl rfl hF_ft134 rfl ?_; intro b_ft135 nf_ hF_; replace hF_ := hF_.trans Nft135.out.symm; have hF_ft135 := hF_; clear hF_))
  go_ret
  exact ⟨b_ft135, re_, hF_ft135, by repeat (first | (with_reducible first | exact a5.out | apply IsS141.alloc | apply IsS141.drewN | apply IsS141.drew | apply IsS141.set_1 | apply IsS141.set_2) | exact a5.out), by repeat (first | (with_reducible first | exact HB.out | apply below_alloc | apply pw_below_drewN | apply below_drew1 | refine below_set ?_ (IsS141.ge a5.out)) | exact HB.out), by repeat (first | (with_reducible first | exact HK.out | apply KeepBut.set_ | apply keep_drewN | apply keep_drew | apply keep_alloc) | exact HK.out)⟩
 ·rw [if_neg c3] at H; have q7 : (a8 == 0) = false := beq_eq_false_iff_ne.mpr c3; have q8 : (a8 != 0) = true := bne_iff_ne.mpr c3; by_cases c7 : a8 = 1
  ·rw [if_pos c7] at H; have B8 : (a8 == 1) = true := beq_iff_eq.mpr c7; have B9 : (a8 != 1) = false := bne_eq_false_iff_eq.mpr c7; clear c7; replace H := Option.bind_eq_some_iff.mp H; obtain ⟨⟨s2, o6, o7⟩, N2, H⟩ := H
   replace H : ((spec_l1Below.f s0_0 o6 o7 60).bind fun a9 => (spec_l4DrawFloat.l0 k (fop .quo .f32 (fint .f32 (wrap64 (s2 - 1000))) (cn .f32 1077936128)) a9.1 s0_0 a9.2.1 a9.2.2)) = some (r1, r2, r3) := H
   have A8 := mk_ N2; clear N2
   obtain ⟨ft139, hft139⟩ : ∃ y_ : Fl, y_ = (fint .f32 (wrap64 (s2 - 1000))) := ⟨_, rfl⟩
   replace H : ((spec_l1Below.f s0_0 o6 o7 60).bind fun a9 => (spec_l4DrawFloat.l0 k (fop .quo .f32 ft139 (cn .f32 1077936128)) a9.1 s0_0 a9.2.1 a9.2.2)) = some (r1, r2, r3) := by first | (rw [hft139]; with_reducible exact H) | (have H2_ := (Option.bind_some _ _).symm.trans H; rw [hft139]; with_reducible exact H2_) | (have H2_ := (Option.bind_some _ _).symm.trans H; with_reducible exact H2_) | with_reducible exact H | (rw [hft139]; exact H) | exact H
   have Nft139 := mk_ hft139; clear hft139
   obtain ⟨ft140, hft140⟩ : ∃ y_ : Fl, y_ = (fop .quo .f32 ft139 (cn .f32 1077936128)) := ⟨_, rfl⟩
   replace H : ((spec_l1Below.f s0_0 o6 o7 60).bind fun a9 => (spec_l4DrawFloat.l0 k ft140 a9.1 s0_0 a9.2.1 a9.2.2)) = some (r1, r2, r3) := by first | (rw [hft140]; with_reducible exact H) | (have H2_ := (Option.bind_some _ _).symm.trans H; rw [hft140]; with_reducible exact H2_) | (have H2_ := (Option.bind_some _ _).symm.trans H; with_reducible exact H2_) | with_reducible exact H | (rw [hft140]; exact H) | exact H
   have Nft140 := mk_ hft140; clear hft140; replace H := Option.bind_eq_some_iff.mp H; obtain ⟨⟨C0, o8, o9⟩, F8, H⟩ := H
   replace H : (spec_l4DrawFloat.l0 k ft140 C0 s0_0 o8 o9) = some (r1, r2, r3) := H
   have A9 := mk_ F8; clear F8
   have H' := mk_ H
   clear H
   go_enter Try.func101, Try.ntmps101
   go_wp2_with (first | ((with_reducible refine gc_ 96 rfl ?_); refine gl_ (some 9) rfl Try.func96 #[.pointer (some ⟨g, 0, none⟩), .int .i64 9] ?_; (with_reducible refine (spec_l1Below.calls g s0_0 s0_1 s0_2 9 a8 c6 c9 w0 _ ?a4 ?a6 A2.out).mono ?_); (case a4 => repeat (first | (with_reducible first | exact a5.out | apply IsS141.alloc | apply IsS141.drewN | apply IsS141.drew | apply IsS141.set_1 | apply IsS141.set_2) | exact a5.out)); (case a6 => exact HB.out); rintro e N0 ⟨rfl, hi, hb, hk⟩; refine ⟨_, rfl, ?_⟩; replace HK := mk_ (KeepBut.trans (by repeat (first | (with_reducible first | exact HK.out | apply KeepBut.set_ | apply keep_drewN | apply keep_drew | apply keep_alloc) | exact HK.out)) hk (.inl rfl)); replace HB := mk_ (hb); replace a5 := mk_ (hi); (try clear hb); (try clear g2); (try clear hk); (try clear hi)) | ((with_reducible refine gc_ 96 rfl ?_); refine gl_ (some 20) rfl Try.func96 #[.pointer (some ⟨g, 0, none⟩), .int .i64 2001] ?_; (with_reducible refine (spec_l1Below.calls g s0_0 c6 c9 2001 s2 o6 o7 w0 _ ?a4 ?a6 A8.out).mono ?_); (case a4 => repeat (first | (with_reducible first | exact a5.out | apply IsS141.alloc | apply IsS141.drewN | apply IsS141.drew | apply IsS141.set_1 | apply IsS141.set_2) | exact a5.out)); (case a6 => exact HB.out); rintro e N3 ⟨rfl, hi, hb, hk⟩; refine ⟨_, rfl, ?_⟩; replace HK := mk_ (KeepBut.trans (by repeat (first | (with_reducible first | exact HK.out | apply KeepBut.set_ | apply keep_drewN | apply keep_drew | apply keep_alloc) | exact HK.out)) hk (.inl rfl)); replace HB := mk_ (hb); replace a5 := mk_ (hi); (try clear hb); (try clear g2); (try clear hk); (try clear hi)) | ((with_reducible refine gd_ 22 rfl ?_); refine fint_event rfl (N := 22) rfl rfl .f32 .i64 (wrap64 (s2 - 1000)) Try.underlying3 Try.underlying144 rfl ?_; intro b_ft139 nf_ hF_; replace hF_ := hF_.trans Nft139.out.symm; have hF_ft139 := hF_; clear hF_) | ((with_reducible refine gd_ 23 rfl ?_); refine fop_event rfl (N := 23) rfl (op := .quo) (by simp) rfl .f32 b_ft139 1077936128 ft139 (cn .f32 1077936128) rfl rfl hF_ft139 rfl ?_; intro b_ft140 nf_ hF_; replace hF_ := hF_.trans Nft140.out.symm; have hF_ft140 := hF_; clear hF_) | ((with_reducible refine gc_ 96 rfl ?_); refine gl_ (some 25) rfl Try.func96 #[.pointer (some ⟨g, 0, none⟩), .int .i64 60] ?_; (with_reducible refine (spec_l1Below.calls g s0_0 o6 o7 60 C0 o8 o9 w0 _ ?a4 ?a6 A9.out).mono ?_); (case a4 => repeat (first | (with_reducible first | exact a5.out | apply IsS141.alloc | apply IsS141.drewN | apply IsS141.drew | apply IsS141.set_1 | apply IsS141.set_2) | exact a5.out)); (case a6 => repeat (first | (with_reducible first | exact HB.out | apply below_alloc | apply pw_below_drewN | apply below_drew1 | refine below_set ?_ (IsS141.ge a5.out)) | exact HB.out)); rintro e N4 ⟨rfl, hi, hb, hk⟩; refine ⟨_, rfl, ?_⟩; replace HK := mk_ (KeepBut.trans (by repeat (first | (with_reducible first | exact HK.out | apply KeepBut.set_ | apply keep_drewN | apply keep_drew | apply keep_alloc) | exact HK.out)) hk (.inl rfl)); replace HB := mk_ (hb); replace a5 := mk_ (hi); (try clear hb); (try clear g2); (try clear hk); (try clear hi)))
   go_loopg [3, 4] k (fun kq v3 v4 w' => ∃ (p0 : Fl) (m3 : Int) (b_x3_1 : Nat), v3 = .float .f32 b_x3_1 ∧ v4 = .int .i64 m3 ∧ Aside0 (spec_l4DrawFloat.l0 kq p0 m3 s0_0 o8 o9 = some (r1, r2, r3)) ∧ Aside0 (kq ≤ k) ∧ Aside0 (cn .f32 b_x3_1 = p0) ∧ Aside0 (IsS141 w0 w' g s0_0 o8 o9) ∧ Aside0 (KeepBut w w' g none) ∧ Aside0 (Below w0.heap.size w0 w'))
   case atStart => exact ⟨(ft140), (C0), b_ft140, rf_, rf_, H', ⟨Nat.le_refl _⟩, ⟨hF_ft140⟩, ⟨by repeat (first | (with_reducible first | exact a5.out | apply IsS141.alloc | apply IsS141.drewN | apply IsS141.drew | apply IsS141.set_1 | apply IsS141.set_2) | exact a5.out)⟩, ⟨by repeat (first | (with_reducible first | exact HK.out | apply KeepBut.set_ | apply keep_drewN | apply keep_drew | apply keep_alloc) | exact HK.out)⟩, ⟨by repeat (first | (with_reducible first | exact HB.out | apply below_alloc | apply pw_below_drewN | apply below_drew1 | refine below_set ?_ (IsS141.ge a5.out)) | exact HB.out)⟩⟩
   case round =>
    clear H'; (try clear c3); (try clear q7); (try clear q8); (try clear c7)
    obtain ⟨p0, m3, b_x3_1, rfl, rfl, HA, F9, ⟨hF_x3_1⟩, a5, HK, HB⟩ := hrel
    cases gk with
    | zero => exact absurd HA.out (by simp [spec_l4DrawFloat.l0])
    | succ k1 =>
     have H := HA.out; clear HA
     simp only [spec_l4DrawFloat.l0] at H
     by_cases o3 : m3 > 0
     ·rw [if_pos o3] at H; have p1 : decide (0 < m3) = true := decide_eq_true o3; clear o3
      obtain ⟨ft144, hft144⟩ : ∃ y_ : Fl, y_ = (fop .mul .f32 p0 (cn .f32 1082130432)) := ⟨_, rfl⟩
      replace H : (spec_l4DrawFloat.l0 k1 ft144 (wrap64 (m3 - 1)) s0_0 o8 o9) = some (r1, r2, r3) := by first | (rw [hft144]; with_reducible exact H) | (have H2_ := (Option.bind_some _ _).symm.trans H; rw [hft144]; with_reducible exact H2_) | (have H2_ := (Option.bind_some _ _).symm.trans H; with_reducible exact H2_) | with_reducible exact H | (rw [hft144]; exact H) | exact H
      have Nft144 := mk_ hft144; clear hft144
      have H' := mk_ H
      clear H
      go_wp2_with (first | ((with_reducible refine gd_ 31 rfl ?_); refine fop_event rfl (N := 31) rfl (op := .mul) (by simp) rfl .f32 b_x3_1 1082130432 p0 (cn .f32 1082130432) rfl rfl hF_x3_1 rfl ?_; intro b_ft144 nf_ hF_; replace hF_ := hF_.trans Nft144.out.symm; have hF_ft144 := hF_; clear hF_))
      go_roundg k1
      case measure => have := F9.out; omega
      case rel => exact ⟨(ft144), (wrap64 (m3 - 1)), b_ft144, rf_, rf_, H', ⟨by have := F9.out; omega⟩, ⟨hF_ft144⟩, ⟨by repeat (first | (with_reducible first | exact a5.out | apply IsS141.alloc | apply IsS141.drewN | apply IsS141.drew | apply IsS141.set_1 | apply IsS141.set_2) | exact a5.out)⟩, ⟨by repeat (first | (with_reducible first | exact HK.out | apply KeepBut.set_ | apply keep_drewN | apply keep_drew | apply keep_alloc) | exact HK.out)⟩, ⟨by repeat (first | (with_reducible first | exact HB.out | apply below_alloc | apply pw_below_drewN | apply below_drew1 | refine below_set ?_ (IsS141.ge a5.out)) | exact HB.out)⟩⟩
     ·rw [if_neg o3] at H; have p1 : decide (0 < m3) = false := decide_eq_false o3; clear o3
      simp only [Option.some.injEq, Prod.mk.injEq] at H
      obtain ⟨rfl, rfl, rfl⟩ := H; go_wp2
      go_ret
      exact ⟨b_x3_1, re_, hF_x3_1, by repeat (first | (with_reducible first | exact a5.out | apply IsS141.alloc | apply IsS141.drewN | apply IsS141.drew | apply IsS141.set_1 | apply IsS141.set_2) | exact a5.out), by repeat (first | (with_reducible first | exact HB.out | apply below_alloc | apply pw_below_drewN | apply below_drew1 | refine below_set ?_ (IsS141.ge a5.out)) | exact HB.out), by repeat (first | (with_reducible first | exact HK.out | apply KeepBut.set_ | apply keep_drewN | apply keep_drew | apply keep_alloc) | exact HK.out)⟩
  ·rw [if_neg c7] at H; have B8 : (a8 == 1) = false := beq_eq_false_iff_ne.mpr c7; have B9 : (a8 != 1) = true := bne_iff_ne.mpr c7; by_cases s3 : a8 = 2
   ·rw [if_pos s3] at H; have B3 : (a8 == 2) = true := beq_iff_eq.mpr s3; have B4 : (a8 != 2) = false := bne_eq_false_iff_eq.mpr s3; clear s3; replace H := Option.bind_eq_some_iff.mp H; obtain ⟨⟨s4, p2, p3⟩, p4, H⟩ := H
    replace H : ((spec_l1Below.f s0_0 p2 p3 80).bind fun b4 => (spec_l4DrawFloat.l1 k (fop .quo .f32 (fint .f32 (wrap64 (s4 - 1000))) (cn .f32 1077936128)) b4.1 s0_0 b4.2.1 b4.2.2)) = some (r1, r2, r3) := H
    have J4 := mk_ p4; clear p4
    obtain ⟨ft148, hft148⟩ : ∃ y_ : Fl, y_ = (fint .f32 (wrap64 (s4 - 1000))) := ⟨_, rfl⟩
    replace H : ((spec_l1Below.f s0_0 p2 p3 80).bind fun b4 => (spec_l4DrawFloat.l1 k (fop .quo .f32 ft148 (cn .f32 1077936128)) b4.1 s0_0 b4.2.1 b4.2.2)) = some (r1, r2, r3) := by first | (rw [hft148]; with_reducible exact H) | (have H2_ := (Option.bind_some _ _).symm.trans H; rw [hft148]; with_reducible exact H2_) | (have H2_ := (Option.bind_some _ _).symm.trans H; with_reducible exact H2_) | with_reducible exact H | (rw [hft148]; exact H) | exact H
    have Nft148 := mk_ hft148; clear hft148
    obtain ⟨ft149, hft149⟩ : ∃ y_ : Fl, y_ = (fop .quo .f32 ft148 (cn .f32 1077936128)) := ⟨_, rfl⟩
    replace H : ((spec_l1Below.f s0_0 p2 p3 80).bind fun b4 => (spec_l4DrawFloat.l1 k ft149 b4.1 s0_0 b4.2.1 b4.2.2)) = some (r1, r2, r3) := by first | (rw [hft149]; with_reducible exact H) | (have H2_ := (Option.bind_some _ _).symm.trans H; rw [hft149]; with_reducible exact H2_) | (have H2_ := (Option.bind_some _ _).symm.trans H; with_reducible exact H2_) | with_reducible exact H | (rw [hft149]; exact H) | exact H
    have Nft149 := mk_ hft149; clear hft149; replace H := Option.bind_eq_some_iff.mp H; obtain ⟨⟨C1, p5, p6⟩, G0, H⟩ := H
    replace H : (spec_l4DrawFloat.l1 k ft149 C1 s0_0 p5 p6) = some (r1, r2, r3) := H
    have O4 := mk_ G0; clear G0
    have H' := mk_ H
    clear H
    go_enter Try.func101, Try.ntmps101
    go_wp2_with (first | ((with_reducible refine gc_ 96 rfl ?_); refine gl_ (some 9) rfl Try.func96 #[.pointer (some ⟨g, 0, none⟩), .int .i64 9] ?_; (with_reducible refine (spec_l1Below.calls g s0_0 s0_1 s0_2 9 a8 c6 c9 w0 _ ?a4 ?a6 A2.out).mono ?_); (case a4 => repeat (first | (with_reducible first | exact a5.out | apply IsS141.alloc | apply IsS141.drewN | apply IsS141.drew | apply IsS141.set_1 | apply IsS141.set_2) | exact a5.out)); (case a6 => exact HB.out); rintro e P5 ⟨rfl, hi, hb, hk⟩; refine ⟨_, rfl, ?_⟩; replace HK := mk_ (KeepBut.trans (by repeat (first | (with_reducible first | exact HK.out | apply KeepBut.set_ | apply keep_drewN | apply keep_drew | apply keep_alloc) | exact HK.out)) hk (.inl rfl)); replace HB := mk_ (hb); replace a5 := mk_ (hi); (try clear hb); (try clear g2); (try clear hk); (try clear hi)) | ((with_reducible refine gc_ 96 rfl ?_); refine gl_ (some 36) rfl Try.func96 #[.pointer (some ⟨g, 0, none⟩), .int .i64 2001] ?_; (with_reducible refine (spec_l1Below.calls g s0_0 c6 c9 2001 s4 p2 p3 w0 _ ?a4 ?a6 J4.out).mono ?_); (case a4 => repeat (first | (with_reducible first | exact a5.out | apply IsS141.alloc | apply IsS141.drewN | apply IsS141.drew | apply IsS141.set_1 | apply IsS141.set_2) | exact a5.out)); (case a6 => exact HB.out); rintro e P6 ⟨rfl, hi, hb, hk⟩; refine ⟨_, rfl, ?_⟩; replace HK := mk_ (KeepBut.trans (by repeat (first | (with_reducible first | exact HK.out | apply KeepBut.set_ | apply keep_drewN | apply keep_drew | apply keep_alloc) | exact HK.out)) hk (.inl rfl)); replace HB := mk_ (hb); replace a5 := mk_ (hi); (try clear hb); (try clear g2); (try clear hk); (try clear hi)) | ((with_reducible refine gd_ 38 rfl ?_); refine fint_event rfl (N := 38) rfl rfl .f32 .i64 (wrap64 (s4 - 1000)) Try.underlying3 Try.underlying144 rfl ?_; intro b_ft148 nf_ hF_; replace hF_ := hF_.trans Nft148.out.symm; have hF_ft148 := hF_; clear hF_) | ((with_reducible refine gd_ 39 rfl ?_); refine fop_event rfl (N := 39) rfl (op := .quo) (by simp) rfl .f32 b_ft148 1077936128 ft148 (cn .f32 1077936128) rfl rfl hF_ft148 rfl ?_; intro b_ft149 nf_ hF_; replace hF_ := hF_.trans Nft149.out.symm; have hF_ft149 := hF_; clear hF_) | ((with_reducible refine gc_ 96 rfl ?_); refine gl_ (some 41) rfl Try.func96 #[.pointer (some ⟨g, 0, none⟩), .int .i64 80] ?_; (with_reducible refine (spec_l1Below.calls g s0_0 p2 p3 80 C1 p5 p6 w0 _ ?a4 ?a6 O4.out).mono ?_); (case a4 => repeat (first | (with_reducible first | exact a5.out | apply IsS141.alloc | apply IsS141.drewN | apply IsS141.drew | apply IsS141.set_1 | apply IsS141.set_2) | exact a5.out)); (case a6 => repeat (first | (with_reducible first | exact HB.out | apply below_alloc | apply pw_below_drewN | apply below_drew1 | refine below_set ?_ (IsS141.ge a5.out)) | exact HB.out)); rintro e O5 ⟨rfl, hi, hb, hk⟩; refine ⟨_, rfl, ?_⟩; replace HK := mk_ (KeepBut.trans (by repeat (first | (with_reducible first | exact HK.out | apply KeepBut.set_ | apply keep_drewN | apply keep_drew | apply keep_alloc) | exact HK.out)) hk (.inl rfl)); replace HB := mk_ (hb); replace a5 := mk_ (hi); (try clear hb); (try clear g2); (try clear hk); (try clear hi)))
    go_loopg [5, 6] k (fun kq v5 v6 w' => ∃ (p7 : Fl) (m4 : Int) (b_x5_1 : Nat), v5 = .float .f32 b_x5_1 ∧ v6 = .int .i64 m4 ∧ Aside0 (spec_l4DrawFloat.l1 kq p7 m4 s0_0 p5 p6 = some (r1, r2, r3)) ∧ Aside0 (kq ≤ k) ∧ Aside0 (cn .f32 b_x5_1 = p7) ∧ Aside0 (IsS141 w0 w' g s0_0 p5 p6) ∧ Aside0 (KeepBut w w' g none) ∧ Aside0 (Below w0.heap.size w0 w'))
    case atStart => exact ⟨(ft149), (C1), b_ft149, rf_, rf_, H', ⟨Nat.le_refl _⟩, ⟨hF_ft149⟩, ⟨by repeat (first | (with_reducible first | exact a5.out | apply IsS141.alloc | apply IsS141.drewN | apply IsS141.drew | apply IsS141.set_1 | apply IsS141.set_2) | exact a5.out)⟩, ⟨by repeat (first | (with_reducible first | exact HK.out | apply KeepBut.set_ | apply keep_drewN | apply keep_drew | apply keep_alloc) | exact HK.out)⟩, ⟨by repeat (first | (with_reducible first | exact HB.out | apply below_alloc | apply pw_below_drewN | apply below_drew1 | refine below_set ?_ (IsS141.ge a5.out)) | exact HB.out)⟩⟩
    case round =>
     clear H'; (try clear c3); (try clear q7); (try clear q8); (try clear c7); (try clear B8); (try clear B9); (try clear s3)
     obtain ⟨p7, m4, b_x5_1, rfl, rfl, HA, F9, ⟨hF_x5_1⟩, a5, HK, HB⟩ := hrel
     cases gk with
     | zero => exact absurd HA.out (by simp [spec_l4DrawFloat.l1])
     | succ k1 =>
      have H := HA.out; clear HA
      simp only [spec_l4DrawFloat.l1] at H
      by_cases F7 : m4 > 0
      ·rw [if_pos F7] at H; have G1 : decide (0 < m4) = true := decide_eq_true F7; clear F7
       obtain ⟨ft153, hft153⟩ : ∃ y_ : Fl, y_ = (fop .quo .f32 p7 (cn .f32 1082130432)) := ⟨_, rfl⟩
       replace H : (spec_l4DrawFloat.l1 k1 ft153 (wrap64 (m4 - 1)) s0_0 p5 p6) = some (r1, r2, r3) := by first | (rw [hft153]; with_reducible exact H) | (have H2_ := (Option.bind_some _ _).symm.trans H; rw [hft153]; with_reducible exact H2_) | (have H2_ := (Option.bind_some _ _).symm.trans H; with_reducible exact H2_) | with_reducible exact H | (rw [hft153]; exact H) | exact H
       have Nft153 := mk_ hft153; clear hft153
       have H' := mk_ H
       clear H
       go_wp2_with (first | ((with_reducible refine gd_ 47 rfl ?_); refine fop_event rfl (N := 47) rfl (op := .quo) (by simp) rfl .f32 b_x5_1 1082130432 p7 (cn .f32 1082130432) rfl rfl hF_x5_1 rfl ?_; intro b_ft153 nf_ hF_; replace hF_ := hF_.trans Nft153.out.symm; have hF_ft153 := hF_; clear hF_))
       go_roundg k1
       case measure => have := F9.out; omega
       case rel => exact ⟨(ft153), (wrap64 (m4 - 1)), b_ft153, rf_, rf_, H', ⟨by have := F9.out; omega⟩, ⟨hF_ft153⟩, ⟨by repeat (first | (with_reducible first | exact a5.out | apply IsS141.alloc | apply IsS141.drewN | apply IsS141.drew | apply IsS141.set_1 | apply IsS141.set_2) | exact a5.out)⟩, ⟨by repeat (first | (with_reducible first | exact HK.out | apply KeepBut.set_ | apply keep_drewN | apply keep_drew | apply keep_alloc) | exact HK.out)⟩, ⟨by repeat (first | (with_reducible first | exact HB.out | apply below_alloc | apply pw_below_drewN | apply below_drew1 | refine below_set ?_ (IsS141.ge a5.out)) | exact HB.out)⟩⟩
      ·rw [if_neg F7] at H; have G1 : decide (0 < m4) = false := decide_eq_false F7; clear F7
       simp only [Option.some.injEq, Prod.mk.injEq] at H
       obtain ⟨rfl, rfl, rfl⟩ := H; go_wp2
       go_ret
       exact ⟨b_x5_1, re_, hF_x5_1, by repeat (first | (with_reducible first | exact a5.out | apply IsS141.alloc | apply IsS141.drewN | apply IsS141.drew | apply IsS141.set_1 | apply IsS141.set_2) | exact a5.out), by repeat (first | (with_reducible first | exact HB.out | apply below_alloc | apply pw_below_drewN | apply below_drew1 | refine below_set ?_ (IsS141.ge a5.out)) | exact HB.out), by repeat (first | (with_reducible first | exact HK.out | apply KeepBut.set_ | apply keep_drewN | apply keep_drew | apply keep_alloc) | exact HK.out)⟩
   ·rw [if_neg s3] at H; have B3 : (a8 == 2) = false := beq_eq_false_iff_ne.mpr s3; have B4 : (a8 != 2) = true := bne_iff_ne.mpr s3; by_cases B5 : a8 = 3
    ·rw [if_pos B5] at H; have G2 : (a8 == 3) = true := beq_iff_eq.mpr B5; have G3 : (a8 != 3) = false := bne_eq_false_iff_eq.mpr B5; clear B5; replace H := Option.bind_eq_some_iff.mp H; obtain ⟨⟨G4, m5, m6⟩, G5, H⟩ := H
     replace H : (if G4 = true then ((spec_l1Below.f s0_0 m5 m6 4).bind fun b7 => ((spec_l4Odd.f b7.1 (cn .f32 0)).bind fun h8 => (some (h8, b7.2.1, b7.2.2)))) else ((spec_l1Below.f s0_0 m5 m6 21).bind fun b8 => (some ((fint .f32 (wrap64 (b8.1 - 10))), b8.2.1, b8.2.2)))) = some (r1, r2, r3) := H
     have N5 := mk_ G5; clear G5; by_cases J5 : G4 = true
     ·subst J5
      have H1 : ((spec_l1Below.f s0_0 m5 m6 4).bind fun b7 => ((spec_l4Odd.f b7.1 (cn .f32 0)).bind fun h8 => (some (h8, b7.2.1, b7.2.2)))) = some (r1, r2, r3) := by rw [if_pos rfl] at H; exact H
      clear H
      have H := H1
      clear H1; replace H := Option.bind_eq_some_iff.mp H; obtain ⟨⟨s5, C2, C3⟩, G6, H⟩ := H
      replace H : ((spec_l4Odd.f s5 (cn .f32 0)).bind fun h8 => (some (h8, C2, C3))) = some (r1, r2, r3) := H
      have O6 := mk_ G6; clear G6; replace H := Option.bind_eq_some_iff.mp H; obtain ⟨h8, G7, H⟩ := H
      replace H : (some (h8, C2, C3)) = some (r1, r2, r3) := H
      have O7 := mk_ G7; clear G7
      simp only [Option.some.injEq, Prod.mk.injEq] at H
      obtain ⟨rfl, rfl, rfl⟩ := H
      go_enter Try.func101, Try.ntmps101
      go_wp2_with (first | ((with_reducible refine gc_ 96 rfl ?_); refine gl_ (some 9) rfl Try.func96 #[.pointer (some ⟨g, 0, none⟩), .int .i64 9] ?_; (with_reducible refine (spec_l1Below.calls g s0_0 s0_1 s0_2 9 a8 c6 c9 w0 _ ?a4 ?a6 A2.out).mono ?_); (case a4 => repeat (first | (with_reducible first | exact a5.out | apply IsS141.alloc | apply IsS141.drewN | apply IsS141.drew | apply IsS141.set_1 | apply IsS141.set_2) | exact a5.out)); (case a6 => exact HB.out); rintro e P7 ⟨rfl, hi, hb, hk⟩; refine ⟨_, rfl, ?_⟩; replace HK := mk_ (KeepBut.trans (by repeat (first | (with_reducible first | exact HK.out | apply KeepBut.set_ | apply keep_drewN | apply keep_drew | apply keep_alloc) | exact HK.out)) hk (.inl rfl)); replace HB := mk_ (hb); replace a5 := mk_ (hi); (try clear hb); (try clear g2); (try clear hk); (try clear hi)) | ((with_reducible refine gc_ 99 rfl ?_); refine gl_ (some 52) rfl Try.func99 #[.pointer (some ⟨g, 0, none⟩), .int .i64 5] ?_; (with_reducible refine (spec_l1Once.calls g s0_0 c6 c9 5 true m5 m6 w0 _ ?a4 ?a6 N5.out).mono ?_); (case a4 => repeat (first | (with_reducible first | exact a5.out | apply IsS141.alloc | apply IsS141.drewN | apply IsS141.drew | apply IsS141.set_1 | apply IsS141.set_2) | exact a5.out)); (case a6 => exact HB.out); rintro e P8 ⟨rfl, hi, hb, hk⟩; refine ⟨_, rfl, ?_⟩; replace HK := mk_ (KeepBut.trans (by repeat (first | (with_reducible first | exact HK.out | apply KeepBut.set_ | apply keep_drewN | apply keep_drew | apply keep_alloc) | exact HK.out)) hk (.inl rfl)); replace HB := mk_ (hb); replace a5 := mk_ (hi); (try clear hb); (try clear g2); (try clear hk); (try clear hi)) | ((with_reducible refine gc_ 96 rfl ?_); refine gl_ (some 54) rfl Try.func96 #[.pointer (some ⟨g, 0, none⟩), .int .i64 4] ?_; (with_reducible refine (spec_l1Below.calls g s0_0 m5 m6 4 s5 C2 C3 w0 _ ?a4 ?a6 O6.out).mono ?_); (case a4 => repeat (first | (with_reducible first | exact a5.out | apply IsS141.alloc | apply IsS141.drewN | apply IsS141.drew | apply IsS141.set_1 | apply IsS141.set_2) | exact a5.out)); (case a6 => exact HB.out); rintro e P9 ⟨rfl, hi, hb, hk⟩; refine ⟨_, rfl, ?_⟩; replace HK := mk_ (KeepBut.trans (by repeat (first | (with_reducible first | exact HK.out | apply KeepBut.set_ | apply keep_drewN | apply keep_drew | apply keep_alloc) | exact HK.out)) hk (.inl rfl)); replace HB := mk_ (hb); replace a5 := mk_ (hi); (try clear hb); (try clear g2); (try clear hk); (try clear hi)) | ((with_reducible refine gc_ 107 rfl ?_); refine gl_ (some 56) rfl Try.func107 #[.int .i64 s5, .float .f32 0] ?_; (with_reducible refine (spec_l4Odd.calls s5 0 (cn .f32 0) h8 _ ?a4 O7.out).mono ?_); (case a4 => exact rfl); rintro e w' ⟨C4, rfl, s6, ⟨nd, rfl⟩⟩; refine ⟨_, rfl, ?_⟩))
      go_ret
      exact ⟨C4, re_, s6, by repeat (first | (with_reducible first | exact a5.out | apply IsS141.alloc | apply IsS141.drewN | apply IsS141.drew | apply IsS141.set_1 | apply IsS141.set_2) | exact a5.out), by repeat (first | (with_reducible first | exact HB.out | apply below_alloc | apply pw_below_drewN | apply below_drew1 | refine below_set ?_ (IsS141.ge a5.out)) | exact HB.out), by repeat (first | (with_reducible first | exact HK.out | apply KeepBut.set_ | apply keep_drewN | apply keep_drew | apply keep_alloc) | exact HK.out)⟩
     ·replace J5 := Bool.eq_false_iff.mpr J5; subst J5
      have H1 : ((spec_l1Below.f s0_0 m5 m6 21).bind fun b8 => (some ((fint .f32 (wrap64 (b8.1 - 10))), b8.2.1, b8.2.2))) = some (r1, r2, r3) := by rw [if_neg (show ¬ (false = true) by decide)] at H; exact H
      clear H
      have H := H1
      clear H1; replace H := Option.bind_eq_some_iff.mp H; obtain ⟨⟨s7, C5, C6⟩, G8, H⟩ := H
      replace H : (some ((fint .f32 (wrap64 (s7 - 10))), C5, C6)) = some (r1, r2, r3) := H
      have O8 := mk_ G8; clear G8
      obtain ⟨ft164, hft164⟩ : ∃ y_ : Fl, y_ = (fint .f32 (wrap64 (s7 - 10))) := ⟨_, rfl⟩
      replace H : (some (ft164, C5, C6)) = some (r1, r2, r3) := by first | (rw [hft164]; with_reducible exact H) | (have H2_ := (Option.bind_some _ _).symm.trans H; rw [hft164]; with_reducible exact H2_) | (have H2_ := (Option.bind_some _ _).symm.trans H; with_reducible exact H2_) | with_reducible exact H | (rw [hft164]; exact H) | exact H
      have Nft164 := mk_ hft164; clear hft164
      simp only [Option.some.injEq, Prod.mk.injEq] at H
      obtain ⟨rfl, rfl, rfl⟩ := H
      go_enter Try.func101, Try.ntmps101
      go_wp2_with (first | ((with_reducible refine gc_ 96 rfl ?_); refine gl_ (some 9) rfl Try.func96 #[.pointer (some ⟨g, 0, none⟩), .int .i64 9] ?_; (with_reducible refine (spec_l1Below.calls g s0_0 s0_1 s0_2 9 a8 c6 c9 w0 _ ?a4 ?a6 A2.out).mono ?_); (case a4 => repeat (first | (with_reducible first | exact a5.out | apply IsS141.alloc | apply IsS141.drewN | apply IsS141.drew | apply IsS141.set_1 | apply IsS141.set_2) | exact a5.out)); (case a6 => exact HB.out); rintro e Q0 ⟨rfl, hi, hb, hk⟩; refine ⟨_, rfl, ?_⟩; replace HK := mk_ (KeepBut.trans (by repeat (first | (with_reducible first | exact HK.out | apply KeepBut.set_ | apply keep_drewN | apply keep_drew | apply keep_alloc) | exact HK.out)) hk (.inl rfl)); replace HB := mk_ (hb); replace a5 := mk_ (hi); (try clear hb); (try clear g2); (try clear hk); (try clear hi)) | ((with_reducible refine gc_ 99 rfl ?_); refine gl_ (some 52) rfl Try.func99 #[.pointer (some ⟨g, 0, none⟩), .int .i64 5] ?_; (with_reducible refine (spec_l1Once.calls g s0_0 c6 c9 5 false m5 m6 w0 _ ?a4 ?a6 N5.out).mono ?_); (case a4 => repeat (first | (with_reducible first | exact a5.out | apply IsS141.alloc | apply IsS141.drewN | apply IsS141.drew | apply IsS141.set_1 | apply IsS141.set_2) | exact a5.out)); (case a6 => exact HB.out); rintro e Q1 ⟨rfl, hi, hb, hk⟩; refine ⟨_, rfl, ?_⟩; replace HK := mk_ (KeepBut.trans (by repeat (first | (with_reducible first | exact HK.out | apply KeepBut.set_ | apply keep_drewN | apply keep_drew | apply keep_alloc) | exact HK.out)) hk (.inl rfl)); replace HB := mk_ (hb); replace a5 := mk_ (hi); (try clear hb); (try clear g2); (try clear hk); (try clear hi)) | ((with_reducible refine gc_ 96 rfl ?_); refine gl_ (some 66) rfl Try.func96 #[.pointer (some ⟨g, 0, none⟩), .int .i64 21] ?_; (with_reducible refine (spec_l1Below.calls g s0_0 m5 m6 21 s7 C5 C6 w0 _ ?a4 ?a6 O8.out).mono ?_); (case a4 => repeat (first | (with_reducible first | exact a5.out | apply IsS141.alloc | apply IsS141.drewN | apply IsS141.drew | apply IsS141.set_1 | apply IsS141.set_2) | exact a5.out)); (case a6 => exact HB.out); rintro e Q2 ⟨rfl, hi, hb, hk⟩; refine ⟨_, rfl, ?_⟩; replace HK := mk_ (KeepBut.trans (by repeat (first | (with_reducible first | exact HK.out | apply KeepBut.set_ | apply keep_drewN | apply keep_drew | apply keep_alloc) | exact HK.out)) hk (.inl rfl)); replace HB := mk_ (hb); replace a5 := mk_ (hi); (try clear hb); (try clear g2); (try clear hk); (try clear hi)) | ((with_reducible refine gd_ 68 rfl ?_); refine fint_event rfl (N := 68) rfl rfl .f32 .i64 (wrap64 (s7 - 10)) Try.underlying3 Try.underlying144 rfl ?_; intro b_ft164 nf_ hF_; replace hF_ := hF_.trans Nft164.out.symm; have hF_ft164 := hF_; clear hF_))
      go_ret
      exact ⟨b_ft164, re_, hF_ft164, by repeat (first | (with_reducible first | exact a5.out | apply IsS141.alloc | apply IsS141.drewN | apply IsS141.drew | apply IsS141.set_1 | apply IsS141.set_2) | exact a5.out), by repeat (first | (with_reducible first | exact HB.out | apply below_alloc | apply pw_below_drewN | apply below_drew1 | refine below_set ?_ (IsS141.ge a5.out)) | exact HB.out), by repeat (first | (with_reducible first | exact HK.out | apply KeepBut.set_ | apply keep_drewN | apply keep_drew | apply keep_alloc) | exact HK.out)⟩
    ·rw [if_neg B5] at H; have G2 : (a8 == 3) = false := beq_eq_false_iff_ne.mpr B5; have G3 : (a8 != 3) = true := bne_iff_ne.mpr B5; have C7 := mk_ H; clear H
     go_enter Try.func101, Try.ntmps101
     go_upto_if 57 with (first | ((with_reducible refine gc_ 96 rfl ?_); refine gl_ (some 9) rfl Try.func96 #[.pointer (some ⟨g, 0, none⟩), .int .i64 9] ?_; (with_reducible refine (spec_l1Below.calls g s0_0 s0_1 s0_2 9 a8 c6 c9 w0 _ ?a4 ?a6 A2.out).mono ?_); (case a4 => repeat (first | (with_reducible first | exact a5.out | apply IsS141.alloc | apply IsS141.drewN | apply IsS141.drew | apply IsS141.set_1 | apply IsS141.set_2) | exact a5.out)); (case a6 => exact HB.out); rintro e Q3 ⟨rfl, hi, hb, hk⟩; refine ⟨_, rfl, ?_⟩; replace HK := mk_ (KeepBut.trans (by repeat (first | (with_reducible first | exact HK.out | apply KeepBut.set_ | apply keep_drewN | apply keep_drew | apply keep_alloc) | exact HK.out)) hk (.inl rfl)); replace HB := mk_ (hb); replace a5 := mk_ (hi); (try clear hb); (try clear g2); (try clear hk); (try clear hi)))
     (try simp only [Act.put, List.setIfInBounds_toArray, List.set_cons_zero, List.set_cons_succ])
     go_cut [57] (fun v57 wc => ∃ (kq : Nat) (l8 : Bool), v57 = .bool l8 ∧ Aside0 (spec_l4DrawFloat.j2 kq l8 s0_0 c6 c9 = some (r1, r2, r3)) ∧ Aside0 (kq ≤ k) ∧ Aside0 (IsS141 w0 wc g s0_0 c6 c9) ∧ Aside0 (KeepBut w wc g none) ∧ Aside0 (Below w0.heap.size w0 wc))
     case first =>
      have H := C7.out; clear C7; by_cases C8 : a8 = 4
      ·rw [if_pos C8] at H; have m7 : (a8 == 4) = true := beq_iff_eq.mpr C8; have G9 : (a8 != 4) = false := bne_eq_false_iff_eq.mpr C8; clear C8
       (first | rw [m7] | (simp only [i64_w, i32_w]; rw [m7]) | skip)
       have H' := mk_ H
       clear H; go_wp2; go_meet
       case rel => exact ⟨_, (true), rf_, H', ⟨by first | omega | exact Nat.le_refl _⟩, ⟨by repeat (first | (with_reducible first | exact a5.out | apply IsS141.alloc | apply IsS141.drewN | apply IsS141.drew | apply IsS141.set_1 | apply IsS141.set_2) | exact a5.out)⟩, ⟨by repeat (first | (with_reducible first | exact HK.out | apply KeepBut.set_ | apply keep_drewN | apply keep_drew | apply keep_alloc) | exact HK.out)⟩, ⟨by repeat (first | (with_reducible first | exact HB.out | apply below_alloc | apply pw_below_drewN | apply below_drew1 | refine below_set ?_ (IsS141.ge a5.out)) | exact HB.out)⟩⟩
      ·rw [if_neg C8] at H; have m7 : (a8 == 4) = false := beq_eq_false_iff_ne.mpr C8; have G9 : (a8 != 4) = true := bne_iff_ne.mpr C8
       (first | rw [m7] | (simp only [i64_w, i32_w]; rw [m7]) | skip)
       have H' := mk_ H
       clear H; go_wp2; go_meet
       case rel => exact ⟨_, ((a8 == 5)), rf_, H', ⟨by first | omega | exact Nat.le_refl _⟩, ⟨by repeat (first | (with_reducible first | exact a5.out | apply IsS141.alloc | apply IsS141.drewN | apply IsS141.drew | apply IsS141.set_1 | apply IsS141.set_2) | exact a5.out)⟩, ⟨by repeat (first | (with_reducible first | exact HK.out | apply KeepBut.set_ | apply keep_drewN | apply keep_drew | apply keep_alloc) | exact HK.out)⟩, ⟨by repeat (first | (with_reducible first | exact HB.out | apply below_alloc | apply pw_below_drewN | apply below_drew1 | refine below_set ?_ (IsS141.ge a5.out)) | exact HB.out)⟩⟩
     case rest =>
      clear C7; (try clear c3); (try clear q7); (try clear q8); (try clear c7); (try clear B8); (try clear B9); (try clear s3); (try clear B3); (try clear B4); (try clear B5)
      obtain ⟨kq, l8, rfl, HA, O9, a5, HK, HB⟩ := hcut
      cases kq with
      | zero => exact absurd HA.out (by simp [spec_l4DrawFloat.j2])
      | succ kj32 =>
       have H := HA.out; clear HA
       simp only [spec_l4DrawFloat.j2] at H
       by_cases J6 : l8 = true
       ·subst J6
        have H1 : ((spec_l1Below.f s0_0 c6 c9 81).bind fun j8 => (some ((fop .quo .f32 (fint .f32 (wrap64 (j8.1 - 40))) (cn .f32 1090519040)), j8.2.1, j8.2.2))) = some (r1, r2, r3) := by rw [if_pos rfl] at H; exact H
        clear H
        have H := H1
        clear H1; replace H := Option.bind_eq_some_iff.mp H; obtain ⟨⟨s8, s9, t0⟩, H0, H⟩ := H
        replace H : (some ((fop .quo .f32 (fint .f32 (wrap64 (s8 - 40))) (cn .f32 1090519040)), s9, t0)) = some (r1, r2, r3) := H
        have P0 := mk_ H0; clear H0
        obtain ⟨ft168, hft168⟩ : ∃ y_ : Fl, y_ = (fint .f32 (wrap64 (s8 - 40))) := ⟨_, rfl⟩
        replace H : (some ((fop .quo .f32 ft168 (cn .f32 1090519040)), s9, t0)) = some (r1, r2, r3) := by first | (rw [hft168]; with_reducible exact H) | (have H2_ := (Option.bind_some _ _).symm.trans H; rw [hft168]; with_reducible exact H2_) | (have H2_ := (Option.bind_some _ _).symm.trans H; with_reducible exact H2_) | with_reducible exact H | (rw [hft168]; exact H) | exact H
        have Nft168 := mk_ hft168; clear hft168
        obtain ⟨ft169, hft169⟩ : ∃ y_ : Fl, y_ = (fop .quo .f32 ft168 (cn .f32 1090519040)) := ⟨_, rfl⟩
        replace H : (some (ft169, s9, t0)) = some (r1, r2, r3) := by first | (rw [hft169]; with_reducible exact H) | (have H2_ := (Option.bind_some _ _).symm.trans H; rw [hft169]; with_reducible exact H2_) | (have H2_ := (Option.bind_some _ _).symm.trans H; with_reducible exact H2_) | with_reducible exact H | (rw [hft169]; exact H) | exact H
        have Nft169 := mk_ hft169; clear hft169
        simp only [Option.some.injEq, Prod.mk.injEq] at H
        obtain ⟨rfl, rfl, rfl⟩ := H
        go_wp2_with (first | ((with_reducible refine gc_ 96 rfl ?_); refine gl_ (some 61) rfl Try.func96 #[.pointer (some ⟨g, 0, none⟩), .int .i64 81] ?_; (with_reducible refine (spec_l1Below.calls g s0_0 c6 c9 81 s8 s9 t0 w0 _ ?a4 ?a6 P0.out).mono ?_); (case a4 => repeat (first | (with_reducible first | exact a5.out | apply IsS141.alloc | apply IsS141.drewN | apply IsS141.drew | apply IsS141.set_1 | apply IsS141.set_2) | exact a5.out)); (case a6 => exact HB.out); rintro e Q4 ⟨rfl, hi, hb, hk⟩; refine ⟨_, rfl, ?_⟩; replace HK := mk_ (KeepBut.trans (by repeat (first | (with_reducible first | exact HK.out | apply KeepBut.set_ | apply keep_drewN | apply keep_drew | apply keep_alloc) | exact HK.out)) hk (.inl rfl)); replace HB := mk_ (hb); replace a5 := mk_ (hi); (try clear hb); (try clear g2); (try clear hk); (try clear hi)) | ((with_reducible refine gd_ 63 rfl ?_); refine fint_event rfl (N := 63) rfl rfl .f32 .i64 (wrap64 (s8 - 40)) Try.underlying3 Try.underlying144 rfl ?_; intro b_ft168 nf_ hF_; replace hF_ := hF_.trans Nft168.out.symm; have hF_ft168 := hF_; clear hF_) | ((with_reducible refine gd_ 64 rfl ?_); refine fop_event rfl (N := 64) rfl (op := .quo) (by simp) rfl .f32 b_ft168 1090519040 ft168 (cn .f32 1090519040) rfl rfl hF_ft168 rfl ?_; intro b_ft169 nf_ hF_; replace hF_ := hF_.trans Nft169.out.symm; have hF_ft169 := hF_; clear hF_))
        go_ret
        exact ⟨b_ft169, re_, hF_ft169, by repeat (first | (with_reducible first | exact a5.out | apply IsS141.alloc | apply IsS141.drewN | apply IsS141.drew | apply IsS141.set_1 | apply IsS141.set_2) | exact a5.out), by repeat (first | (with_reducible first | exact HB.out | apply below_alloc | apply pw_below_drewN | apply below_drew1 | refine below_set ?_ (IsS141.ge a5.out)) | exact HB.out), by repeat (first | (with_reducible first | exact HK.out | apply KeepBut.set_ | apply keep_drewN | apply keep_drew | apply keep_alloc) | exact HK.out)⟩
       ·replace J6 := Bool.eq_false_iff.mpr J6; subst J6
        have H1 : ((spec_l1Below.f s0_0 c6 c9 21).bind fun j9 => (some ((fint .f32 (wrap64 (j9.1 - 10))), j9.2.1, j9.2.2))) = some (r1, r2, r3) := by rw [if_neg (show ¬ (false = true) by decide)] at H; exact H
        clear H
        have H := H1
        clear H1; replace H := Option.bind_eq_some_iff.mp H; obtain ⟨⟨t1, C9, D0⟩, H2, H⟩ := H
        replace H : (some ((fint .f32 (wrap64 (t1 - 10))), C9, D0)) = some (r1, r2, r3) := H
        have P1 := mk_ H2; clear H2
        obtain ⟨ft173, hft173⟩ : ∃ y_ : Fl, y_ = (fint .f32 (wrap64 (t1 - 10))) := ⟨_, rfl⟩
        replace H : (some (ft173, C9, D0)) = some (r1, r2, r3) := by first | (rw [hft173]; with_reducible exact H) | (have H2_ := (Option.bind_some _ _).symm.trans H; rw [hft173]; with_reducible exact H2_) | (have H2_ := (Option.bind_some _ _).symm.trans H; with_reducible exact H2_) | with_reducible exact H | (rw [hft173]; exact H) | exact H
        have Nft173 := mk_ hft173; clear hft173
        simp only [Option.some.injEq, Prod.mk.injEq] at H
        obtain ⟨rfl, rfl, rfl⟩ := H
        go_wp2_with (first | ((with_reducible refine gc_ 96 rfl ?_); refine gl_ (some 66) rfl Try.func96 #[.pointer (some ⟨g, 0, none⟩), .int .i64 21] ?_; (with_reducible refine (spec_l1Below.calls g s0_0 c6 c9 21 t1 C9 D0 w0 _ ?a4 ?a6 P1.out).mono ?_); (case a4 => repeat (first | (with_reducible first | exact a5.out | apply IsS141.alloc | apply IsS141.drewN | apply IsS141.drew | apply IsS141.set_1 | apply IsS141.set_2) | exact a5.out)); (case a6 => exact HB.out); rintro e Q5 ⟨rfl, hi, hb, hk⟩; refine ⟨_, rfl, ?_⟩; replace HK := mk_ (KeepBut.trans (by repeat (first | (with_reducible first | exact HK.out | apply KeepBut.set_ | apply keep_drewN | apply keep_drew | apply keep_alloc) | exact HK.out)) hk (.inl rfl)); replace HB := mk_ (hb); replace a5 := mk_ (hi); (try clear hb); (try clear g2); (try clear hk); (try clear hi)) | ((with_reducible refine gd_ 68 rfl ?_); refine fint_event rfl (N := 68) rfl rfl .f32 .i64 (wrap64 (t1 - 10)) Try.underlying3 Try.underlying144 rfl ?_; intro b_ft173 nf_ hF_; replace hF_ := hF_.trans Nft173.out.symm; have hF_ft173 := hF_; clear hF_))
        go_ret
        exact ⟨b_ft173, re_, hF_ft173, by repeat (first | (with_reducible first | exact a5.out | apply IsS141.alloc | apply IsS141.drewN | apply IsS141.drew | apply IsS141.set_1 | apply IsS141.set_2) | exact a5.out), by repeat (first | (with_reducible first | exact HB.out | apply below_alloc | apply pw_below_drewN | apply below_drew1 | refine below_set ?_ (IsS141.ge a5.out)) | exact HB.out), by repeat (first | (with_reducible first | exact HK.out | apply KeepBut.set_ | apply keep_drewN | apply keep_drew | apply keep_alloc) | exact HK.out)⟩

/-! ### spec_l5Draw: function 87 -/
def spec_l5Draw.f (k : Nat) (s0_0 : List Int) (s0_1 : Int) (s0_2 : Int) : Option (Fl × Int × Int) := (spec_l1Once.f s0_0 s0_1 s0_2 12).bind fun g6 => (if g6.1 = true then ((spec_l4DrawFloat.f k s0_0 g6.2.1 g6.2.2).bind fun d0 => (some ((fwide d0.1), d0.2.1, d0.2.2))) else ((spec_l1Below.f s0_0 g6.2.1 g6.2.2 161).bind fun d1 => (some ((fop .quo .f64 (fint .f64 (wrap64 (d1.1 - 80))) (cn .f64 4625196817309499392)), d1.2.1, d1.2.2))))
theorem spec_l5Draw.mono : ∀ a0 a1 a2 k, LeO (spec_l5Draw.f k a0 a1 a2) (spec_l5Draw.f (k + 1) a0 a1 a2) := by
 intro a0 a1 a2 k
 unfold spec_l5Draw.f
 repeat' first
   | (with_reducible exact spec_l4DrawFloat.mono _ _ _ _)
   | (with_reducible exact LeO.refl _)
   | (with_reducible exact LeO.none _)
   | (with_reducible refine LeO.ite ?_ ?_)
   | (with_reducible refine LeO.bind ?_ (fun _ => ?_))
   | exact spec_l4DrawFloat.mono _ _ _ _
   | exact LeO.none _
   | refine LeO.ite ?_ ?_
   | refine LeO.bind ?_ (fun _ => ?_)
set_option maxHeartbeats 8000000 in
set_option maxRecDepth 100000 in
theorem spec_l5Draw.calls (k : Nat) (g : Nat) (s0_0 : List Int) (s0_1 : Int) (s0_2 : Int) (r1 : Fl) (r2 : Int) (r3 : Int) (w0 w : World) (hI : IsS141 w0 w g s0_0 s0_1 s0_2) (hB : Below w0.heap.size w0 w) (h : spec_l5Draw.f k s0_0 s0_1 s0_2 = some (r1, r2, r3)) :
  Calls Try.prog 87 #[.pointer (some ⟨g, 0, none⟩)] w fun e w' => ∃ b_r1 : Nat, e = .returned (.float .f64 b_r1) ∧ cn .f64 b_r1 = r1 ∧ IsS141 w0 w' g s0_0 r2 r3 ∧ Below w0.heap.size w0 w' ∧ KeepBut w w' g none := by
 have a5 := mk_ hI; have HK := mk_ (KeepBut.refl w g none); have HL := mk_ hB.size; clear hI; have HW0 := mk_ hB.size; have HB := mk_ hB; clear hB
 have H : ((spec_l1Once.f s0_0 s0_1 s0_2 12).bind fun g6 => (if g6.1 = true then ((spec_l4DrawFloat.f k s0_0 g6.2.1 g6.2.2).bind fun d0 => (some ((fwide d0.1), d0.2.1, d0.2.2))) else ((spec_l1Below.f s0_0 g6.2.1 g6.2.2 161).bind fun d1 => (some ((fop .quo .f64 (fint .f64 (wrap64 (d1.1 - 80))) (cn .f64 4625196817309499392)), d1.2.1, d1.2.2))))) = some (r1, r2, r3) := h
 clear h; replace H := Option.bind_eq_some_iff.mp H; obtain ⟨⟨H3, m8, m9⟩, o5, H⟩ := H
 replace H : (if H3 = true then ((spec_l4DrawFloat.f k s0_0 m8 m9).bind fun d0 => (some ((fwide d0.1), d0.2.1, d0.2.2))) else ((spec_l1Below.f s0_0 m8 m9 161).bind fun d1 => (some ((fop .quo .f64 (fint .f64 (wrap64 (d1.1 - 80))) (cn .f64 4625196817309499392)), d1.2.1, d1.2.2)))) = some (r1, r2, r3) := H
 have A2 := mk_ o5; clear o5; by_cases c3 : H3 = true
 ·subst c3
  have H1 : ((spec_l4DrawFloat.f k s0_0 m8 m9).bind fun d0 => (some ((fwide d0.1), d0.2.1, d0.2.2))) = some (r1, r2, r3) := by rw [if_pos rfl] at H; exact H
  clear H
  have H := H1
  clear H1; replace H := Option.bind_eq_some_iff.mp H; obtain ⟨⟨t2, D1, D2⟩, o1, H⟩ := H
  replace H : (some ((fwide t2), D1, D2)) = some (r1, r2, r3) := H
  have A4 := mk_ o1; clear o1
  obtain ⟨ft180, hft180⟩ : ∃ y_ : Fl, y_ = (fwide t2) := ⟨_, rfl⟩
  replace H : (some (ft180, D1, D2)) = some (r1, r2, r3) := by first | (rw [hft180]; with_reducible exact H) | (have H2_ := (Option.bind_some _ _).symm.trans H; rw [hft180]; with_reducible exact H2_) | (have H2_ := (Option.bind_some _ _).symm.trans H; with_reducible exact H2_) | with_reducible exact H | (rw [hft180]; exact H) | exact H
  have Nft180 := mk_ hft180; clear hft180
  simp only [Option.some.injEq, Prod.mk.injEq] at H
  obtain ⟨rfl, rfl, rfl⟩ := H
  go_enter Try.func87, Try.ntmps87
  go_wp2_with (first | ((with_reducible refine gc_ 99 rfl ?_); refine gl_ (some 4) rfl Try.func99 #[.pointer (some ⟨g, 0, none⟩), .int .i64 12] ?_; (with_reducible refine (spec_l1Once.calls g s0_0 s0_1 s0_2 12 true m8 m9 w0 _ ?a4 ?a6 A2.out).mono ?_); (case a4 => repeat (first | (with_reducible first | exact a5.out | apply IsS141.alloc | apply IsS141.drewN | apply IsS141.drew | apply IsS141.set_1 | apply IsS141.set_2) | exact a5.out)); (case a6 => exact HB.out); rintro e w5 ⟨rfl, hi, hb, hk⟩; refine ⟨_, rfl, ?_⟩; replace HK := mk_ (KeepBut.trans (by repeat (first | (with_reducible first | exact HK.out | apply KeepBut.set_ | apply keep_drewN | apply keep_drew | apply keep_alloc) | exact HK.out)) hk (.inl rfl)); replace HB := mk_ (hb); replace a5 := mk_ (hi); (try clear hb); (try clear g2); (try clear hk); (try clear hi)) | ((with_reducible refine gc_ 101 rfl ?_); refine gl_ (some 6) rfl Try.func101 #[.pointer (some ⟨g, 0, none⟩)] ?_; (with_reducible refine (spec_l4DrawFloat.calls k g s0_0 m8 m9 t2 D1 D2 w0 _ ?a4 ?a6 A4.out).mono ?_); (case a4 => repeat (first | (with_reducible first | exact a5.out | apply IsS141.alloc | apply IsS141.drewN | apply IsS141.drew | apply IsS141.set_1 | apply IsS141.set_2) | exact a5.out)); (case a6 => exact HB.out); rintro e w6 ⟨D3, rfl, t3, hi, hb, hk⟩; refine ⟨_, rfl, ?_⟩; replace HK := mk_ (KeepBut.trans (by repeat (first | (with_reducible first | exact HK.out | apply KeepBut.set_ | apply keep_drewN | apply keep_drew | apply keep_alloc) | exact HK.out)) hk (.inl rfl)); replace HB := mk_ (hb); replace a5 := mk_ (hi); (try clear hb); (try clear g2); (try clear hk); (try clear hi)) | ((with_reducible refine gd_ 7 rfl ?_); refine fwide_event rfl (N := 7) rfl rfl D3 t2 Try.underlying144 Try.underlying36 rfl t3 ?_; intro b_ft180 nf_ hF_; replace hF_ := hF_.trans Nft180.out.symm; have hF_ft180 := hF_; clear hF_))
  go_ret
  exact ⟨b_ft180, re_, hF_ft180, by repeat (first | (with_reducible first | exact a5.out | apply IsS141.alloc | apply IsS141.drewN | apply IsS141.drew | apply IsS141.set_1 | apply IsS141.set_2) | exact a5.out), by repeat (first | (with_reducible first | exact HB.out | apply below_alloc | apply pw_below_drewN | apply below_drew1 | refine below_set ?_ (IsS141.ge a5.out)) | exact HB.out), by repeat (first | (with_reducible first | exact HK.out | apply KeepBut.set_ | apply keep_drewN | apply keep_drew | apply keep_alloc) | exact HK.out)⟩
 ·replace c3 := Bool.eq_false_iff.mpr c3; subst c3
  have H1 : ((spec_l1Below.f s0_0 m8 m9 161).bind fun d1 => (some ((fop .quo .f64 (fint .f64 (wrap64 (d1.1 - 80))) (cn .f64 4625196817309499392)), d1.2.1, d1.2.2))) = some (r1, r2, r3) := by rw [if_neg (show ¬ (false = true) by decide)] at H; exact H
  clear H
  have H := H1
  clear H1; replace H := Option.bind_eq_some_iff.mp H; obtain ⟨⟨t4, t5, t6⟩, N6, H⟩ := H
  replace H : (some ((fop .quo .f64 (fint .f64 (wrap64 (t4 - 80))) (cn .f64 4625196817309499392)), t5, t6)) = some (r1, r2, r3) := H
  have A7 := mk_ N6; clear N6
  obtain ⟨ft184, hft184⟩ : ∃ y_ : Fl, y_ = (fint .f64 (wrap64 (t4 - 80))) := ⟨_, rfl⟩
  replace H : (some ((fop .quo .f64 ft184 (cn .f64 4625196817309499392)), t5, t6)) = some (r1, r2, r3) := by first | (rw [hft184]; with_reducible exact H) | (have H2_ := (Option.bind_some _ _).symm.trans H; rw [hft184]; with_reducible exact H2_) | (have H2_ := (Option.bind_some _ _).symm.trans H; with_reducible exact H2_) | with_reducible exact H | (rw [hft184]; exact H) | exact H
  have Nft184 := mk_ hft184; clear hft184
  obtain ⟨ft185, hft185⟩ : ∃ y_ : Fl, y_ = (fop .quo .f64 ft184 (cn .f64 4625196817309499392)) := ⟨_, rfl⟩
  replace H : (some (ft185, t5, t6)) = some (r1, r2, r3) := by first | (rw [hft185]; with_reducible exact H) | (have H2_ := (Option.bind_some _ _).symm.trans H; rw [hft185]; with_reducible exact H2_) | (have H2_ := (Option.bind_some _ _).symm.trans H; with_reducible exact H2_) | with_reducible exact H | (rw [hft185]; exact H) | exact H
  have Nft185 := mk_ hft185; clear hft185
  simp only [Option.some.injEq, Prod.mk.injEq] at H
  obtain ⟨rfl, rfl, rfl⟩ := H
  go_enter Try.func87, Try.ntmps87
  go_wp2_with (first | ((with_reducible refine gc_ 99 rfl ?_); refine gl_ (some 4) rfl Try.func99 #[.pointer (some ⟨g, 0, none⟩), .int .i64 12] ?_; (with_reducible refine (spec_l1Once.calls g s0_0 s0_1 s0_2 12 false m8 m9 w0 _ ?a4 ?a6 A2.out).mono ?_); (case a4 => repeat (first | (with_reducible first | exact a5.out | apply IsS141.alloc | apply IsS141.drewN | apply IsS141.drew | apply IsS141.set_1 | apply IsS141.set_2) | exact a5.out)); (case a6 => exact HB.out); rintro e w8 ⟨rfl, hi, hb, hk⟩; refine ⟨_, rfl, ?_⟩; replace HK := mk_ (KeepBut.trans (by repeat (first | (with_reducible first | exact HK.out | apply KeepBut.set_ | apply keep_drewN | apply keep_drew | apply keep_alloc) | exact HK.out)) hk (.inl rfl)); replace HB := mk_ (hb); replace a5 := mk_ (hi); (try clear hb); (try clear g2); (try clear hk); (try clear hi)) | ((with_reducible refine gc_ 96 rfl ?_); refine gl_ (some 9) rfl Try.func96 #[.pointer (some ⟨g, 0, none⟩), .int .i64 161] ?_; (with_reducible refine (spec_l1Below.calls g s0_0 m8 m9 161 t4 t5 t6 w0 _ ?a4 ?a6 A7.out).mono ?_); (case a4 => repeat (first | (with_reducible first | exact a5.out | apply IsS141.alloc | apply IsS141.drewN | apply IsS141.drew | apply IsS141.set_1 | apply IsS141.set_2) | exact a5.out)); (case a6 => exact HB.out); rintro e w9 ⟨rfl, hi, hb, hk⟩; refine ⟨_, rfl, ?_⟩; replace HK := mk_ (KeepBut.trans (by repeat (first | (with_reducible first | exact HK.out | apply KeepBut.set_ | apply keep_drewN | apply keep_drew | apply keep_alloc) | exact HK.out)) hk (.inl rfl)); replace HB := mk_ (hb); replace a5 := mk_ (hi); (try clear hb); (try clear g2); (try clear hk); (try clear hi)) | ((with_reducible refine gd_ 11 rfl ?_); refine fint_event rfl (N := 11) rfl rfl .f64 .i64 (wrap64 (t4 - 80)) Try.underlying3 Try.underlying36 rfl ?_; intro b_ft184 nf_ hF_; replace hF_ := hF_.trans Nft184.out.symm; have hF_ft184 := hF_; clear hF_) | ((with_reducible refine gd_ 12 rfl ?_); refine fop_event rfl (N := 12) rfl (op := .quo) (by simp) rfl .f64 b_ft184 4625196817309499392 ft184 (cn .f64 4625196817309499392) rfl rfl hF_ft184 rfl ?_; intro b_ft185 nf_ hF_; replace hF_ := hF_.trans Nft185.out.symm; have hF_ft185 := hF_; clear hF_))
  go_ret
  exact ⟨b_ft185, re_, hF_ft185, by repeat (first | (with_reducible first | exact a5.out | apply IsS141.alloc | apply IsS141.drewN | apply IsS141.drew | apply IsS141.set_1 | apply IsS141.set_2) | exact a5.out), by repeat (first | (with_reducible first | exact HB.out | apply below_alloc | apply pw_below_drewN | apply below_drew1 | refine below_set ?_ (IsS141.ge a5.out)) | exact HB.out), by repeat (first | (with_reducible first | exact HK.out | apply KeepBut.set_ | apply keep_drewN | apply keep_drew | apply keep_alloc) | exact HK.out)⟩

/-! ### spec_l5DrawMotion: function 84 -/
def spec_l5DrawMotion.f (k : Nat) (s0_0 : List Int) (s0_1 : Int) (s0_2 : Int) : Option (Fl × Fl × Fl × Fl × Int × Int) := (spec_l5Draw.f k s0_0 s0_1 s0_2).bind fun l2 => ((spec_l5Draw.f k s0_0 l2.2.1 l2.2.2).bind fun g7 => ((spec_l5Draw.f k s0_0 g7.2.1 g7.2.2).bind fun d2 => ((spec_l5Draw.f k s0_0 d2.2.1 d2.2.2).bind fun b9 => (some (l2.1, g7.1, d2.1, b9.1, b9.2.1, b9.2.2)))))
theorem spec_l5DrawMotion.mono : ∀ a0 a1 a2 k, LeO (spec_l5DrawMotion.f k a0 a1 a2) (spec_l5DrawMotion.f (k + 1) a0 a1 a2) := by
 intro a0 a1 a2 k
 unfold spec_l5DrawMotion.f
 repeat' first
   | (with_reducible exact spec_l5Draw.mono _ _ _ _)
   | (with_reducible exact LeO.refl _)
   | (with_reducible exact LeO.none _)
   | (with_reducible refine LeO.ite ?_ ?_)
   | (with_reducible refine LeO.bind ?_ (fun _ => ?_))
   | exact spec_l5Draw.mono _ _ _ _
   | exact LeO.none _
   | refine LeO.ite ?_ ?_
   | refine LeO.bind ?_ (fun _ => ?_)
set_option maxHeartbeats 8000000 in
set_option maxRecDepth 100000 in
theorem spec_l5DrawMotion.calls (k : Nat) (g : Nat) (s0_0 : List Int) (s0_1 : Int) (s0_2 : Int) (r1 : Fl) (r2 : Fl) (r3 : Fl) (r4 : Fl) (r5 : Int) (r6 : Int) (w0 w : World) (hI : IsS141 w0 w g s0_0 s0_1 s0_2) (hB : Below w0.heap.size w0 w) (h : spec_l5DrawMotion.f k s0_0 s0_1 s0_2 = some (r1, r2, r3, r4, r5, r6)) :
  Calls Try.prog 84 #[.pointer (some ⟨g, 0, none⟩)] w fun e w' => ∃ b_r1 b_r2 b_r3 b_r4 : Nat, e = .returned (.agg #[.float .f64 b_r1, .float .f64 b_r2, .float .f64 b_r3, .float .f64 b_r4]) ∧ cn .f64 b_r1 = r1 ∧ cn .f64 b_r2 = r2 ∧ cn .f64 b_r3 = r3 ∧ cn .f64 b_r4 = r4 ∧ IsS141 w0 w' g s0_0 r5 r6 ∧ Below w0.heap.size w0 w' ∧ KeepBut w w' g none := by
 have P2 := Try.underlying60
 have a5 := mk_ hI; have HK := mk_ (KeepBut.refl w g none); have HL := mk_ hB.size; clear hI; have HW0 := mk_ hB.size; have HB := mk_ hB; clear hB
 have H : ((spec_l5Draw.f k s0_0 s0_1 s0_2).bind fun l2 => ((spec_l5Draw.f k s0_0 l2.2.1 l2.2.2).bind fun g7 => ((spec_l5Draw.f k s0_0 g7.2.1 g7.2.2).bind fun d2 => ((spec_l5Draw.f k s0_0 d2.2.1 d2.2.2).bind fun b9 => (some (l2.1, g7.1, d2.1, b9.1, b9.2.1, b9.2.2)))))) = some (r1, r2, r3, r4, r5, r6) := h
 clear h; replace H := Option.bind_eq_some_iff.mp H; obtain ⟨⟨p8, D4, D5⟩, o5, H⟩ := H
 replace H : ((spec_l5Draw.f k s0_0 D4 D5).bind fun g7 => ((spec_l5Draw.f k s0_0 g7.2.1 g7.2.2).bind fun d2 => ((spec_l5Draw.f k s0_0 d2.2.1 d2.2.2).bind fun b9 => (some (p8, g7.1, d2.1, b9.1, b9.2.1, b9.2.2))))) = some (r1, r2, r3, r4, r5, r6) := H
 have A2 := mk_ o5; clear o5; replace H := Option.bind_eq_some_iff.mp H; obtain ⟨⟨t7, D6, D7⟩, B6, H⟩ := H
 replace H : ((spec_l5Draw.f k s0_0 D6 D7).bind fun d2 => ((spec_l5Draw.f k s0_0 d2.2.1 d2.2.2).bind fun b9 => (some (p8, t7, d2.1, b9.1, b9.2.1, b9.2.2)))) = some (r1, r2, r3, r4, r5, r6) := H
 have A3 := mk_ B6; clear B6; replace H := Option.bind_eq_some_iff.mp H; obtain ⟨⟨D8, D9, E0⟩, o1, H⟩ := H
 replace H : ((spec_l5Draw.f k s0_0 D9 E0).bind fun b9 => (some (p8, t7, D8, b9.1, b9.2.1, b9.2.2))) = some (r1, r2, r3, r4, r5, r6) := H
 have A4 := mk_ o1; clear o1; replace H := Option.bind_eq_some_iff.mp H; obtain ⟨⟨H4, H5, H6⟩, H7, H⟩ := H
 replace H : (some (p8, t7, D8, H4, H5, H6)) = some (r1, r2, r3, r4, r5, r6) := H
 have A5 := mk_ H7; clear H7
 simp only [Option.some.injEq, Prod.mk.injEq] at H
 obtain ⟨rfl, rfl, rfl, rfl, rfl, rfl⟩ := H
 go_enter Try.func84, Try.ntmps84
 go_wp2_with (first | ((with_reducible refine gd_ 2 rfl ?_); refine box_event ?hg (N := 2) ?hd (cs := #[.float .f64 0, .float .f64 0, .float .f64 0, .float .f64 0]) (t := 60) ?hr ?_; (case hd => rfl); (case hg => rfl); (case hr => exact hr_); intro h7 hg w6 hbox hb; replace HB := bp_ HB hb; have c4 := mk_ (hbox); have n0 := mk_ ((by rw [hg]; exact (keep_size (w := w) (g := g) (row := none) (by repeat (first | (with_reducible first | exact HK.out | apply KeepBut.set_ | apply keep_drewN | apply keep_drew | apply keep_alloc) | exact HK.out))) : w.heap.size ≤ h7)); have H8 := mk_ ((Nat.le_trans HW0.out (by rw [hg]; exact (keep_size (w := w) (g := g) (row := none) (by repeat (first | (with_reducible first | exact HK.out | apply KeepBut.set_ | apply keep_drewN | apply keep_drew | apply keep_alloc) | exact HK.out))) : w.heap.size ≤ h7) : w0.heap.size ≤ h7)); replace HK := mk_ (KeepBut.trans (by repeat (first | (with_reducible first | exact HK.out | apply KeepBut.set_ | apply keep_drewN | apply keep_drew | apply keep_alloc) | exact HK.out)) (KeepBut.of_below hb g none) (.inl rfl)); have h5 := mk_ ((by rw [hg]; exact Nat.ne_of_lt (IsS141.lt (show IsS141 w0 _ g s0_0 s0_1 s0_2 from by repeat (first | (with_reducible first | exact a5.out | apply IsS141.alloc | apply IsS141.drewN | apply IsS141.drew | apply IsS141.set_1 | apply IsS141.set_2) | exact a5.out))) : g ≠ h7)); have h9 := mk_ ((by rw [hg]; exact Nat.ne_of_gt (IsS141.lt (show IsS141 w0 _ g s0_0 s0_1 s0_2 from by repeat (first | (with_reducible first | exact a5.out | apply IsS141.alloc | apply IsS141.drewN | apply IsS141.drew | apply IsS141.set_1 | apply IsS141.set_2) | exact a5.out))) : h7 ≠ g)); replace a5 := mk_ (IsS141.below (by repeat (first | (with_reducible first | exact a5.out | apply IsS141.alloc | apply IsS141.drewN | apply IsS141.drew | apply IsS141.set_1 | apply IsS141.set_2) | exact a5.out)) hb); clear hb hbox hg) | ((with_reducible refine gc_ 87 rfl ?_); refine gl_ (some 4) rfl Try.func87 #[.pointer (some ⟨g, 0, none⟩)] ?_; (with_reducible refine (spec_l5Draw.calls k g s0_0 s0_1 s0_2 p8 D4 D5 w0 _ ?a4 ?a6 A2.out).mono ?_); (case a4 => repeat (first | (with_reducible first | exact a5.out | apply IsS141.alloc | apply IsS141.drewN | apply IsS141.drew | apply IsS141.set_1 | apply IsS141.set_2 | refine IsS141.far ?_ h5.out _) | exact a5.out)); (case a6 => exact HB.out); rintro e w7 ⟨l3, rfl, t8, hi, hb, hk⟩; refine ⟨_, rfl, ?_⟩; replace c4 := mk_ (KeepBut.blk hk (g' := h7) (o := .cells #[.float .f64 0, .float .f64 0, .float .f64 0, .float .f64 0] 60 (0, 0)) (by exact c4.out) h9.out (by simp)); replace HK := mk_ (KeepBut.trans (by repeat (first | (with_reducible first | exact HK.out | apply KeepBut.set_ | apply keep_drewN | apply keep_drew | apply keep_alloc | refine keep_far ?_ n0.out _) | exact HK.out)) hk (.inl rfl)); replace HB := mk_ (hb); replace a5 := mk_ (hi); (try clear hb); (try clear g2); (try clear hk); (try clear hi)) | ((with_reducible refine gc_ 87 rfl ?_); refine gl_ (some 6) rfl Try.func87 #[.pointer (some ⟨g, 0, none⟩)] ?_; (with_reducible refine (spec_l5Draw.calls k g s0_0 D4 D5 t7 D6 D7 w0 _ ?a4 ?a6 A3.out).mono ?_); (case a4 => repeat (first | (with_reducible first | exact a5.out | apply IsS141.alloc | apply IsS141.drewN | apply IsS141.drew | apply IsS141.set_1 | apply IsS141.set_2 | refine IsS141.far ?_ h5.out _) | exact a5.out)); (case a6 => exact HB.out); rintro e w8 ⟨l9, rfl, t9, hi, hb, hk⟩; refine ⟨_, rfl, ?_⟩; replace c4 := mk_ (KeepBut.blk hk (g' := h7) (o := .cells #[.float .f64 0, .float .f64 0, .float .f64 0, .float .f64 0] 60 (0, 0)) (by exact c4.out) h9.out (by simp)); replace HK := mk_ (KeepBut.trans (by repeat (first | (with_reducible first | exact HK.out | apply KeepBut.set_ | apply keep_drewN | apply keep_drew | apply keep_alloc | refine keep_far ?_ n0.out _) | exact HK.out)) hk (.inl rfl)); replace HB := mk_ (hb); replace a5 := mk_ (hi); (try clear hb); (try clear g2); (try clear hk); (try clear hi)) | ((with_reducible refine gc_ 87 rfl ?_); refine gl_ (some 8) rfl Try.func87 #[.pointer (some ⟨g, 0, none⟩)] ?_; (with_reducible refine (spec_l5Draw.calls k g s0_0 D6 D7 D8 D9 E0 w0 _ ?a4 ?a6 A4.out).mono ?_); (case a4 => repeat (first | (with_reducible first | exact a5.out | apply IsS141.alloc | apply IsS141.drewN | apply IsS141.drew | apply IsS141.set_1 | apply IsS141.set_2 | refine IsS141.far ?_ h5.out _) | exact a5.out)); (case a6 => exact HB.out); rintro e w9 ⟨n4, rfl, y6, hi, hb, hk⟩; refine ⟨_, rfl, ?_⟩; replace c4 := mk_ (KeepBut.blk hk (g' := h7) (o := .cells #[.float .f64 0, .float .f64 0, .float .f64 0, .float .f64 0] 60 (0, 0)) (by exact c4.out) h9.out (by simp)); replace HK := mk_ (KeepBut.trans (by repeat (first | (with_reducible first | exact HK.out | apply KeepBut.set_ | apply keep_drewN | apply keep_drew | apply keep_alloc | refine keep_far ?_ n0.out _) | exact HK.out)) hk (.inl rfl)); replace HB := mk_ (hb); replace a5 := mk_ (hi); (try clear hb); (try clear g2); (try clear hk); (try clear hi)) | ((with_reducible refine gc_ 87 rfl ?_); refine gl_ (some 10) rfl Try.func87 #[.pointer (some ⟨g, 0, none⟩)] ?_; (with_reducible refine (spec_l5Draw.calls k g s0_0 D9 E0 H4 H5 H6 w0 _ ?a4 ?a6 A5.out).mono ?_); (case a4 => repeat (first | (with_reducible first | exact a5.out | apply IsS141.alloc | apply IsS141.drewN | apply IsS141.drew | apply IsS141.set_1 | apply IsS141.set_2 | refine IsS141.far ?_ h5.out _) | exact a5.out)); (case a6 => exact HB.out); rintro e N0 ⟨p9, rfl, y7, hi, hb, hk⟩; refine ⟨_, rfl, ?_⟩; replace c4 := mk_ (KeepBut.blk hk (g' := h7) (o := .cells #[.float .f64 0, .float .f64 0, .float .f64 0, .float .f64 0] 60 (0, 0)) (by exact c4.out) h9.out (by simp)); replace HK := mk_ (KeepBut.trans (by repeat (first | (with_reducible first | exact HK.out | apply KeepBut.set_ | apply keep_drewN | apply keep_drew | apply keep_alloc | refine keep_far ?_ n0.out _) | exact HK.out)) hk (.inl rfl)); replace HB := mk_ (hb); replace a5 := mk_ (hi); (try clear hb); (try clear g2); (try clear hk); (try clear hi); have N7 := h9.out; have N8 := h5.out; have J7 := bc0_ c4; have J8 := bc1_ c4; have J9 := bc2_ c4; have L0 := bc3_ c4; have L1 := bf_ c4 0; have L2 := bf_ c4 1; have L3 := bf_ c4 2; have L4 := bf_ c4 3))
 refine bodyPost_ret (results_cell_row rfl _ _ h7 60 #[.float .f64 l3, .float .f64 l9, .float .f64 n4, .float .f64 p9] (0, 0) _ rfl (by (with_reducible repeat (first | refine blk_drewN ?_ _ | refine blk_drew ?_ | refine blk_alloc ?_ _)); refine blk_put (cs := #[.float .f64 l3, .float .f64 l9, .float .f64 n4, .float .f64 0]) ?_ 3 _ rfl; (with_reducible repeat (first | refine blk_drewN ?_ _ | refine blk_drew ?_ | refine blk_alloc ?_ _)); refine blk_put (cs := #[.float .f64 l3, .float .f64 l9, .float .f64 0, .float .f64 0]) ?_ 2 _ rfl; (with_reducible repeat (first | refine blk_drewN ?_ _ | refine blk_drew ?_ | refine blk_alloc ?_ _)); refine blk_put (cs := #[.float .f64 l3, .float .f64 0, .float .f64 0, .float .f64 0]) ?_ 1 _ rfl; (with_reducible repeat (first | refine blk_drewN ?_ _ | refine blk_drew ?_ | refine blk_alloc ?_ _)); refine blk_put (cs := #[.float .f64 0, .float .f64 0, .float .f64 0, .float .f64 0]) ?_ 0 _ rfl; (with_reducible repeat (first | refine blk_drewN ?_ _ | refine blk_drew ?_ | refine blk_alloc ?_ _)); exact c4.out) Try.underlying60 rfl (by kernel_rfl)) rfl ?_
 exact ⟨l3, l9, n4, p9, re_, t8, t9, y6, y7, by repeat (first | (with_reducible first | exact a5.out | apply IsS141.alloc | apply IsS141.drewN | apply IsS141.drew | apply IsS141.set_1 | apply IsS141.set_2 | refine IsS141.far ?_ h5.out _) | exact a5.out), by repeat (first | (with_reducible first | exact HB.out | apply below_alloc | apply pw_below_drewN | apply below_drew1 | refine below_set ?_ (IsS141.ge a5.out) | refine below_set ?_ H8.out) | exact HB.out), by repeat (first | (with_reducible first | exact HK.out | apply KeepBut.set_ | apply keep_drewN | apply keep_drew | apply keep_alloc | refine keep_far ?_ n0.out _) | exact HK.out)⟩

/-! ### spec_l5DrawForces: function 85 -/
def spec_l5DrawForces.f (k : Nat) (s0_0 : List Int) (s0_1 : Int) (s0_2 : Int) : Option (Fl × Fl × Fl × Fl × Fl × Int × Int) := (spec_l5Draw.f k s0_0 s0_1 s0_2).bind fun l4 => ((spec_l5Draw.f k s0_0 l4.2.1 l4.2.2).bind fun g8 => ((spec_l5Draw.f k s0_0 g8.2.1 g8.2.2).bind fun d3 => ((spec_l5Draw.f k s0_0 d3.2.1 d3.2.2).bind fun c0 => ((spec_l5Draw.f k s0_0 c0.2.1 c0.2.2).bind fun b5 => (some (l4.1, g8.1, d3.1, c0.1, b5.1, b5.2.1, b5.2.2))))))
theorem spec_l5DrawForces.mono : ∀ a0 a1 a2 k, LeO (spec_l5DrawForces.f k a0 a1 a2) (spec_l5DrawForces.f (k + 1) a0 a1 a2) := by
 intro a0 a1 a2 k
 unfold spec_l5DrawForces.f
 repeat' first
   | (with_reducible exact spec_l5Draw.mono _ _ _ _)
   | (with_reducible exact LeO.refl _)
   | (with_reducible exact LeO.none _)
   | (with_reducible refine LeO.ite ?_ ?_)
   | (with_reducible refine LeO.bind ?_ (fun _ => ?_))
   | exact spec_l5Draw.mono _ _ _ _
   | exact LeO.none _
   | refine LeO.ite ?_ ?_
   | refine LeO.bind ?_ (fun _ => ?_)
set_option maxHeartbeats 8000000 in
set_option maxRecDepth 100000 in
theorem spec_l5DrawForces.calls (k : Nat) (g : Nat) (s0_0 : List Int) (s0_1 : Int) (s0_2 : Int) (r1 : Fl) (r2 : Fl) (r3 : Fl) (r4 : Fl) (r5 : Fl) (r6 : Int) (r7 : Int) (w0 w : World) (hI : IsS141 w0 w g s0_0 s0_1 s0_2) (hB : Below w0.heap.size w0 w) (h : spec_l5DrawForces.f k s0_0 s0_1 s0_2 = some (r1, r2, r3, r4, r5, r6, r7)) :
  Calls Try.prog 85 #[.pointer (some ⟨g, 0, none⟩)] w fun e w' => ∃ b_r1 b_r2 b_r3 b_r4 b_r5 : Nat, e = .returned (.agg #[.float .f64 b_r1, .float .f64 b_r2, .float .f64 b_r3, .float .f64 b_r4, .float .f64 b_r5]) ∧ cn .f64 b_r1 = r1 ∧ cn .f64 b_r2 = r2 ∧ cn .f64 b_r3 = r3 ∧ cn .f64 b_r4 = r4 ∧ cn .f64 b_r5 = r5 ∧ IsS141 w0 w' g s0_0 r6 r7 ∧ Below w0.heap.size w0 w' ∧ KeepBut w w' g none := by
 have P3 := Try.underlying88
 have a5 := mk_ hI; have HK := mk_ (KeepBut.refl w g none); have HL := mk_ hB.size; clear hI; have HW0 := mk_ hB.size; have HB := mk_ hB; clear hB
 have H : ((spec_l5Draw.f k s0_0 s0_1 s0_2).bind fun l4 => ((spec_l5Draw.f k s0_0 l4.2.1 l4.2.2).bind fun g8 => ((spec_l5Draw.f k s0_0 g8.2.1 g8.2.2).bind fun d3 => ((spec_l5Draw.f k s0_0 d3.2.1 d3.2.2).bind fun c0 => ((spec_l5Draw.f k s0_0 c0.2.1 c0.2.2).bind fun b5 => (some (l4.1, g8.1, d3.1, c0.1, b5.1, b5.2.1, b5.2.2))))))) = some (r1, r2, r3, r4, r5, r6, r7) := h
 clear h; replace H := Option.bind_eq_some_iff.mp H; obtain ⟨⟨o4, E1, E2⟩, o5, H⟩ := H
 replace H : ((spec_l5Draw.f k s0_0 E1 E2).bind fun g8 => ((spec_l5Draw.f k s0_0 g8.2.1 g8.2.2).bind fun d3 => ((spec_l5Draw.f k s0_0 d3.2.1 d3.2.2).bind fun c0 => ((spec_l5Draw.f k s0_0 c0.2.1 c0.2.2).bind fun b5 => (some (o4, g8.1, d3.1, c0.1, b5.1, b5.2.1, b5.2.2)))))) = some (r1, r2, r3, r4, r5, r6, r7) := H
 have A2 := mk_ o5; clear o5; replace H := Option.bind_eq_some_iff.mp H; obtain ⟨⟨q0, E3, E4⟩, B6, H⟩ := H
 replace H : ((spec_l5Draw.f k s0_0 E3 E4).bind fun d3 => ((spec_l5Draw.f k s0_0 d3.2.1 d3.2.2).bind fun c0 => ((spec_l5Draw.f k s0_0 c0.2.1 c0.2.2).bind fun b5 => (some (o4, q0, d3.1, c0.1, b5.1, b5.2.1, b5.2.2))))) = some (r1, r2, r3, r4, r5, r6, r7) := H
 have A3 := mk_ B6; clear B6; replace H := Option.bind_eq_some_iff.mp H; obtain ⟨⟨y8, E5, E6⟩, o1, H⟩ := H
 replace H : ((spec_l5Draw.f k s0_0 E5 E6).bind fun c0 => ((spec_l5Draw.f k s0_0 c0.2.1 c0.2.2).bind fun b5 => (some (o4, q0, y8, c0.1, b5.1, b5.2.1, b5.2.2)))) = some (r1, r2, r3, r4, r5, r6, r7) := H
 have A4 := mk_ o1; clear o1; replace H := Option.bind_eq_some_iff.mp H; obtain ⟨⟨E7, E8, E9⟩, H7, H⟩ := H
 replace H : ((spec_l5Draw.f k s0_0 E8 E9).bind fun b5 => (some (o4, q0, y8, E7, b5.1, b5.2.1, b5.2.2))) = some (r1, r2, r3, r4, r5, r6, r7) := H
 have A5 := mk_ H7; clear H7; replace H := Option.bind_eq_some_iff.mp H; obtain ⟨⟨H9, I0, I1⟩, N9, H⟩ := H
 replace H : (some (o4, q0, y8, E7, H9, I0, I1)) = some (r1, r2, r3, r4, r5, r6, r7) := H
 have A6 := mk_ N9; clear N9
 simp only [Option.some.injEq, Prod.mk.injEq] at H
 obtain ⟨rfl, rfl, rfl, rfl, rfl, rfl, rfl⟩ := H
 go_enter Try.func85, Try.ntmps85
 go_wp2_with (first | ((with_reducible refine gd_ 2 rfl ?_); refine box_event ?hg (N := 2) ?hd (cs := #[.float .f64 0, .float .f64 0, .float .f64 0, .float .f64 0, .float .f64 0]) (t := 88) ?hr ?_; (case hd => rfl); (case hg => rfl); (case hr => exact hr_); intro g1 hg w7 hbox hb; replace HB := bp_ HB hb; have b6 := mk_ (hbox); have l7 := mk_ ((by rw [hg]; exact (keep_size (w := w) (g := g) (row := none) (by repeat (first | (with_reducible first | exact HK.out | apply KeepBut.set_ | apply keep_drewN | apply keep_drew | apply keep_alloc) | exact HK.out))) : w.heap.size ≤ g1)); have I2 := mk_ ((Nat.le_trans HW0.out (by rw [hg]; exact (keep_size (w := w) (g := g) (row := none) (by repeat (first | (with_reducible first | exact HK.out | apply KeepBut.set_ | apply keep_drewN | apply keep_drew | apply keep_alloc) | exact HK.out))) : w.heap.size ≤ g1) : w0.heap.size ≤ g1)); replace HK := mk_ (KeepBut.trans (by repeat (first | (with_reducible first | exact HK.out | apply KeepBut.set_ | apply keep_drewN | apply keep_drew | apply keep_alloc) | exact HK.out)) (KeepBut.of_below hb g none) (.inl rfl)); have d8 := mk_ ((by rw [hg]; exact Nat.ne_of_lt (IsS141.lt (show IsS141 w0 _ g s0_0 s0_1 s0_2 from by repeat (first | (with_reducible first | exact a5.out | apply IsS141.alloc | apply IsS141.drewN | apply IsS141.drew | apply IsS141.set_1 | apply IsS141.set_2) | exact a5.out))) : g ≠ g1)); have h6 := mk_ ((by rw [hg]; exact Nat.ne_of_gt (IsS141.lt (show IsS141 w0 _ g s0_0 s0_1 s0_2 from by repeat (first | (with_reducible first | exact a5.out | apply IsS141.alloc | apply IsS141.drewN | apply IsS141.drew | apply IsS141.set_1 | apply IsS141.set_2) | exact a5.out))) : g1 ≠ g)); replace a5 := mk_ (IsS141.below (by repeat (first | (with_reducible first | exact a5.out | apply IsS141.alloc | apply IsS141.drewN | apply IsS141.drew | apply IsS141.set_1 | apply IsS141.set_2) | exact a5.out)) hb); clear hb hbox hg) | ((with_reducible refine gc_ 87 rfl ?_); refine gl_ (some 4) rfl Try.func87 #[.pointer (some ⟨g, 0, none⟩)] ?_; (with_reducible refine (spec_l5Draw.calls k g s0_0 s0_1 s0_2 o4 E1 E2 w0 _ ?a4 ?a6 A2.out).mono ?_); (case a4 => repeat (first | (with_reducible first | exact a5.out | apply IsS141.alloc | apply IsS141.drewN | apply IsS141.drew | apply IsS141.set_1 | apply IsS141.set_2 | refine IsS141.far ?_ d8.out _) | exact a5.out)); (case a6 => exact HB.out); rintro e w8 ⟨j4, rfl, y9, hi, hb, hk⟩; refine ⟨_, rfl, ?_⟩; replace b6 := mk_ (KeepBut.blk hk (g' := g1) (o := .cells #[.float .f64 0, .float .f64 0, .float .f64 0, .float .f64 0, .float .f64 0] 88 (0, 0)) (by exact b6.out) h6.out (by simp)); replace HK := mk_ (KeepBut.trans (by repeat (first | (with_reducible first | exact HK.out | apply KeepBut.set_ | apply keep_drewN | apply keep_drew | apply keep_alloc | refine keep_far ?_ l7.out _) | exact HK.out)) hk (.inl rfl)); replace HB := mk_ (hb); replace a5 := mk_ (hi); (try clear hb); (try clear g2); (try clear hk); (try clear hi)) | ((with_reducible refine gc_ 87 rfl ?_); refine gl_ (some 6) rfl Try.func87 #[.pointer (some ⟨g, 0, none⟩)] ?_; (with_reducible refine (spec_l5Draw.calls k g s0_0 E1 E2 q0 E3 E4 w0 _ ?a4 ?a6 A3.out).mono ?_); (case a4 => repeat (first | (with_reducible first | exact a5.out | apply IsS141.alloc | apply IsS141.drewN | apply IsS141.drew | apply IsS141.set_1 | apply IsS141.set_2 | refine IsS141.far ?_ d8.out _) | exact a5.out)); (case a6 => exact HB.out); rintro e w9 ⟨l5, rfl, A0, hi, hb, hk⟩; refine ⟨_, rfl, ?_⟩; replace b6 := mk_ (KeepBut.blk hk (g' := g1) (o := .cells #[.float .f64 0, .float .f64 0, .float .f64 0, .float .f64 0, .float .f64 0] 88 (0, 0)) (by exact b6.out) h6.out (by simp)); replace HK := mk_ (KeepBut.trans (by repeat (first | (with_reducible first | exact HK.out | apply KeepBut.set_ | apply keep_drewN | apply keep_drew | apply keep_alloc | refine keep_far ?_ l7.out _) | exact HK.out)) hk (.inl rfl)); replace HB := mk_ (hb); replace a5 := mk_ (hi); (try clear hb); (try clear g2); (try clear hk); (try clear hi)) | ((with_reducible refine gc_ 87 rfl ?_); refine gl_ (some 8) rfl Try.func87 #[.pointer (some ⟨g, 0, none⟩)] ?_; (with_reducible refine (spec_l5Draw.calls k g s0_0 E3 E4 y8 E5 E6 w0 _ ?a4 ?a6 A4.out).mono ?_); (case a4 => repeat (first | (with_reducible first | exact a5.out | apply IsS141.alloc | apply IsS141.drewN | apply IsS141.drew | apply IsS141.set_1 | apply IsS141.set_2 | refine IsS141.far ?_ d8.out _) | exact a5.out)); (case a6 => exact HB.out); rintro e N0 ⟨m0, rfl, A1, hi, hb, hk⟩; refine ⟨_, rfl, ?_⟩; replace b6 := mk_ (KeepBut.blk hk (g' := g1) (o := .cells #[.float .f64 0, .float .f64 0, .float .f64 0, .float .f64 0, .float .f64 0] 88 (0, 0)) (by exact b6.out) h6.out (by simp)); replace HK := mk_ (KeepBut.trans (by repeat (first | (with_reducible first | exact HK.out | apply KeepBut.set_ | apply keep_drewN | apply keep_drew | apply keep_alloc | refine keep_far ?_ l7.out _) | exact HK.out)) hk (.inl rfl)); replace HB := mk_ (hb); replace a5 := mk_ (hi); (try clear hb); (try clear g2); (try clear hk); (try clear hi)) | ((with_reducible refine gc_ 87 rfl ?_); refine gl_ (some 10) rfl Try.func87 #[.pointer (some ⟨g, 0, none⟩)] ?_; (with_reducible refine (spec_l5Draw.calls k g s0_0 E5 E6 E7 E8 E9 w0 _ ?a4 ?a6 A5.out).mono ?_); (case a4 => repeat (first | (with_reducible first | exact a5.out | apply IsS141.alloc | apply IsS141.drewN | apply IsS141.drew | apply IsS141.set_1 | apply IsS141.set_2 | refine IsS141.far ?_ d8.out _) | exact a5.out)); (case a6 => exact HB.out); rintro e N3 ⟨n5, rfl, B0, hi, hb, hk⟩; refine ⟨_, rfl, ?_⟩; replace b6 := mk_ (KeepBut.blk hk (g' := g1) (o := .cells #[.float .f64 0, .float .f64 0, .float .f64 0, .float .f64 0, .float .f64 0] 88 (0, 0)) (by exact b6.out) h6.out (by simp)); replace HK := mk_ (KeepBut.trans (by repeat (first | (with_reducible first | exact HK.out | apply KeepBut.set_ | apply keep_drewN | apply keep_drew | apply keep_alloc | refine keep_far ?_ l7.out _) | exact HK.out)) hk (.inl rfl)); replace HB := mk_ (hb); replace a5 := mk_ (hi); (try clear hb); (try clear g2); (try clear hk); (try clear hi)) | ((with_reducible refine gc_ 87 rfl ?_); refine gl_ (some 12) rfl Try.func87 #[.pointer (some ⟨g, 0, none⟩)] ?_; (with_reducible refine (spec_l5Draw.calls k g s0_0 E8 E9 H9 I0 I1 w0 _ ?a4 ?a6 A6.out).mono ?_); (case a4 => repeat (first | (with_reducible first | exact a5.out | apply IsS141.alloc | apply IsS141.drewN | apply IsS141.drew | apply IsS141.set_1 | apply IsS141.set_2 | refine IsS141.far ?_ d8.out _) | exact a5.out)); (case a6 => exact HB.out); rintro e N4 ⟨q1, rfl, B1, hi, hb, hk⟩; refine ⟨_, rfl, ?_⟩; replace b6 := mk_ (KeepBut.blk hk (g' := g1) (o := .cells #[.float .f64 0, .float .f64 0, .float .f64 0, .float .f64 0, .float .f64 0] 88 (0, 0)) (by exact b6.out) h6.out (by simp)); replace HK := mk_ (KeepBut.trans (by repeat (first | (with_reducible first | exact HK.out | apply KeepBut.set_ | apply keep_drewN | apply keep_drew | apply keep_alloc | refine keep_far ?_ l7.out _) | exact HK.out)) hk (.inl rfl)); replace HB := mk_ (hb); replace a5 := mk_ (hi); (try clear hb); (try clear g2); (try clear hk); (try clear hi); have O0 := h6.out; have O1 := d8.out; have L5 := bc0_ b6; have L6 := bc1_ b6; have L7 := bc2_ b6; have L8 := bc3_ b6; have L9 : N4.cell? ⟨g1, 4, none⟩ = some (.float .f64 0) := bd_ b6 4; have M0 := bf_ b6 0; have M1 := bf_ b6 1; have M2 := bf_ b6 2; have M3 := bf_ b6 3; have M4 := bf_ b6 4))
 refine bodyPost_ret (results_cell_row rfl _ _ g1 88 #[.float .f64 j4, .float .f64 l5, .float .f64 m0, .float .f64 n5, .float .f64 q1] (0, 0) _ rfl (by (with_reducible repeat (first | refine blk_drewN ?_ _ | refine blk_drew ?_ | refine blk_alloc ?_ _)); refine blk_put (cs := #[.float .f64 j4, .float .f64 l5, .float .f64 m0, .float .f64 n5, .float .f64 0]) ?_ 4 _ rfl; (with_reducible repeat (first | refine blk_drewN ?_ _ | refine blk_drew ?_ | refine blk_alloc ?_ _)); refine blk_put (cs := #[.float .f64 j4, .float .f64 l5, .float .f64 m0, .float .f64 0, .float .f64 0]) ?_ 3 _ rfl; (with_reducible repeat (first | refine blk_drewN ?_ _ | refine blk_drew ?_ | refine blk_alloc ?_ _)); refine blk_put (cs := #[.float .f64 j4, .float .f64 l5, .float .f64 0, .float .f64 0, .float .f64 0]) ?_ 2 _ rfl; (with_reducible repeat (first | refine blk_drewN ?_ _ | refine blk_drew ?_ | refine blk_alloc ?_ _)); refine blk_put (cs := #[.float .f64 j4, .float .f64 0, .float .f64 0, .float .f64 0, .float .f64 0]) ?_ 1 _ rfl; (with_reducible repeat (first | refine blk_drewN ?_ _ | refine blk_drew ?_ | refine blk_alloc ?_ _)); refine blk_put (cs := #[.float .f64 0, .float .f64 0, .float .f64 0, .float .f64 0, .float .f64 0]) ?_ 0 _ rfl; (with_reducible repeat (first | refine blk_drewN ?_ _ | refine blk_drew ?_ | refine blk_alloc ?_ _)); exact b6.out) Try.underlying88 rfl (by kernel_rfl)) rfl ?_
 exact ⟨j4, l5, m0, n5, q1, re_, y9, A0, A1, B0, B1, by repeat (first | (with_reducible first | exact a5.out | apply IsS141.alloc | apply IsS141.drewN | apply IsS141.drew | apply IsS141.set_1 | apply IsS141.set_2 | refine IsS141.far ?_ d8.out _) | exact a5.out), by repeat (first | (with_reducible first | exact HB.out | apply below_alloc | apply pw_below_drewN | apply below_drew1 | refine below_set ?_ (IsS141.ge a5.out) | refine below_set ?_ I2.out) | exact HB.out), by repeat (first | (with_reducible first | exact HK.out | apply KeepBut.set_ | apply keep_drewN | apply keep_drew | apply keep_alloc | refine keep_far ?_ l7.out _) | exact HK.out)⟩

/-! ### spec_l5NaN: function 100 -/
def spec_l5NaN.f (a0 : Fl) : Option (Fl) := some (fop .quo .f64 a0 a0)
set_option maxHeartbeats 8000000 in
set_option maxRecDepth 100000 in
theorem spec_l5NaN.calls (b_a0 : Nat) (a0 : Fl) (r : Fl) (w : World) (hF_a0 : cn .f64 b_a0 = a0) (h : spec_l5NaN.f a0 = some r) :
  Calls Try.prog 100 #[.float .f64 b_a0] w fun e w' => ∃ b_r : Nat, e = .returned (.float .f64 b_r) ∧ cn .f64 b_r = r ∧ Drawn0 w w' := by
 have H : (some (fop .quo .f64 a0 a0)) = some r := h
 clear h
 obtain ⟨ft215, hft215⟩ : ∃ y_ : Fl, y_ = (fop .quo .f64 a0 a0) := ⟨_, rfl⟩
 replace H : (some ft215) = some r := by first | (rw [hft215]; with_reducible exact H) | (have H2_ := (Option.bind_some _ _).symm.trans H; rw [hft215]; with_reducible exact H2_) | (have H2_ := (Option.bind_some _ _).symm.trans H; with_reducible exact H2_) | with_reducible exact H | (rw [hft215]; exact H) | exact H
 have Nft215 := mk_ hft215; clear hft215; obtain rfl := Option.some.inj H
 go_enter Try.func100, Try.ntmps100
 go_wp2_with (first | ((with_reducible refine gd_ 5 rfl ?_); refine fop_event rfl (N := 5) rfl (op := .quo) (by simp) rfl .f64 b_a0 b_a0 a0 a0 rfl rfl hF_a0 hF_a0 ?_; intro b_ft215 nf_ hF_; replace hF_ := hF_.trans Nft215.out.symm; have hF_ft215 := hF_; clear hF_))
 go_ret
 exact ⟨b_ft215, by first | rfl | (simp; done) | (simp [*]; done), hF_ft215, by repeat (first | exact Drawn0.refl _ | apply Drawn0.step)⟩

/-! ### spec_l5DrawList: function 86 -/
mutual
def spec_l5DrawList.j0 : Nat → Int → List Int → Int → Int → Option ((List (Fl)) × Int × Int)
 | 0, _, _, _, _ => none
 | k + 1, x5, d5, d6, d7 => spec_l5DrawList.l0 k x5 (([] : List (Fl))) 0 d5 d6 d7
def spec_l5DrawList.l0 : Nat → Int → List (Fl) → Int → List Int → Int → Int → Option ((List (Fl)) × Int × Int)
 | 0, _, _, _, _, _, _ => none
 | k + 1, x5, x6, x7, d5, d6, d7 => if x7 < x5 then ((spec_l5Draw.f k d5 d6 d7).bind fun q2 => ((spec_l1Once.f d5 q2.2.1 q2.2.2 6).bind fun g9 => (if g9.1 = true then ((spec_l5NaN.f (cn .f64 0)).bind fun j7 => (if x6.length < 17592186044416 then (spec_l5DrawList.l0 k x5 (x6 ++ [j7]) (wrap64 (x7 + 1)) d5 g9.2.1 g9.2.2) else (none))) else (if x6.length < 17592186044416 then (spec_l5DrawList.l0 k x5 (x6 ++ [q2.1]) (wrap64 (x7 + 1)) d5 g9.2.1 g9.2.2) else (none))))) else (some (x6, d6, d7))
end
def spec_l5DrawList.f (k : Nat) (s0_0 : List Int) (s0_1 : Int) (s0_2 : Int) (a1 : Int) : Option ((List (Fl)) × Int × Int) := (spec_l1Below.f s0_0 s0_1 s0_2 14).bind fun l6 => ((spec_l1Once.f s0_0 l6.2.1 l6.2.2 40).bind fun c5 => (if c5.1 = true then ((spec_l1Below.f s0_0 c5.2.1 c5.2.2 2).bind fun c1 => (spec_l5DrawList.j0 k (wrap64 (a1 + c1.1)) s0_0 c1.2.1 c1.2.2)) else (spec_l5DrawList.j0 k l6.1 s0_0 c5.2.1 c5.2.2)))
theorem spec_l5DrawList.mono_l : ∀ k, (∀ y0 y1 y2 y3, LeO (spec_l5DrawList.j0 k y0 y1 y2 y3) (spec_l5DrawList.j0 (k + 1) y0 y1 y2 y3)) ∧ (∀ y0 y1 y2 y3 y4 y5, LeO (spec_l5DrawList.l0 k y0 y1 y2 y3 y4 y5) (spec_l5DrawList.l0 (k + 1) y0 y1 y2 y3 y4 y5))
 | 0 => ⟨fun _ _ _ _ r h => by simp [spec_l5DrawList.j0] at h, fun _ _ _ _ _ _ r h => by simp [spec_l5DrawList.l0] at h⟩
 | k + 1 => by
  obtain ⟨m1, m2⟩ := spec_l5DrawList.mono_l k
  refine ⟨?_, ?_⟩
  ·intro y0 y1 y2 y3
   unfold spec_l5DrawList.j0
   repeat' first
   | (with_reducible exact m1 _ _ _ _)
   | (with_reducible exact m2 _ _ _ _ _ _)
   | (with_reducible exact spec_l5Draw.mono _ _ _ _)
   | (with_reducible exact LeO.refl _)
   | (with_reducible exact LeO.none _)
   | (with_reducible refine LeO.ite ?_ ?_)
   | (with_reducible refine LeO.bind ?_ (fun _ => ?_))
   | exact m1 _ _ _ _
   | exact m2 _ _ _ _ _ _
   | exact spec_l5Draw.mono _ _ _ _
   | exact LeO.none _
   | refine LeO.ite ?_ ?_
   | refine LeO.bind ?_ (fun _ => ?_)
  ·intro y0 y1 y2 y3 y4 y5
   unfold spec_l5DrawList.l0
   repeat' first
   | (with_reducible exact m1 _ _ _ _)
   | (with_reducible exact m2 _ _ _ _ _ _)
   | (with_reducible exact spec_l5Draw.mono _ _ _ _)
   | (with_reducible exact LeO.refl _)
   | (with_reducible exact LeO.none _)
   | (with_reducible refine LeO.ite ?_ ?_)
   | (with_reducible refine LeO.bind ?_ (fun _ => ?_))
   | exact m1 _ _ _ _
   | exact m2 _ _ _ _ _ _
   | exact spec_l5Draw.mono _ _ _ _
   | exact LeO.none _
   | refine LeO.ite ?_ ?_
   | refine LeO.bind ?_ (fun _ => ?_)
theorem spec_l5DrawList.mono : ∀ a0 a1 a2 a3 k, LeO (spec_l5DrawList.f k a0 a1 a2 a3) (spec_l5DrawList.f (k + 1) a0 a1 a2 a3) := by
 intro a0 a1 a2 a3 k
 obtain ⟨m1, m2⟩ := spec_l5DrawList.mono_l k
 unfold spec_l5DrawList.f
 repeat' first
   | (with_reducible exact m1 _ _ _ _)
   | (with_reducible exact m2 _ _ _ _ _ _)
   | (with_reducible exact spec_l5Draw.mono _ _ _ _)
   | (with_reducible exact LeO.refl _)
   | (with_reducible exact LeO.none _)
   | (with_reducible refine LeO.ite ?_ ?_)
   | (with_reducible refine LeO.bind ?_ (fun _ => ?_))
   | exact m1 _ _ _ _
   | exact m2 _ _ _ _ _ _
   | exact spec_l5Draw.mono _ _ _ _
   | exact LeO.none _
   | refine LeO.ite ?_ ?_
   | refine LeO.bind ?_ (fun _ => ?_)
set_option maxHeartbeats 8000000 in
set_option maxRecDepth 100000 in
theorem spec_l5DrawList.calls (k : Nat) (g : Nat) (s0_0 : List Int) (s0_1 : Int) (s0_2 : Int) (a1 : Int) (r1 : List (Fl)) (r2 : Int) (r3 : Int) (w0 w : World) (hI : IsS141 w0 w g s0_0 s0_1 s0_2) (hB : Below w0.heap.size w0 w) (h : spec_l5DrawList.f k s0_0 s0_1 s0_2 a1 = some (r1, r2, r3)) :
  Calls Try.prog 86 #[.pointer (some ⟨g, 0, none⟩), .int .i64 a1] w fun e w' => ∃ v0_ : Value, e = .returned (v0_) ∧ Kd.R (Kd.fl .f64) 36 w' w.heap.size (fun _ => True) v0_ r1 ∧ IsS141 w0 w' g s0_0 r2 r3 ∧ Below w0.heap.size w0 w' ∧ KeepBut w w' g none := by
 have a5 := mk_ hI; have HK := mk_ (KeepBut.refl w g none); have HL := mk_ hB.size; clear hI; have HW0 := mk_ hB.size; have HB := mk_ hB; clear hB
 have H : ((spec_l1Below.f s0_0 s0_1 s0_2 14).bind fun l6 => ((spec_l1Once.f s0_0 l6.2.1 l6.2.2 40).bind fun c5 => (if c5.1 = true then ((spec_l1Below.f s0_0 c5.2.1 c5.2.2 2).bind fun c1 => (spec_l5DrawList.j0 k (wrap64 (a1 + c1.1)) s0_0 c1.2.1 c1.2.2)) else (spec_l5DrawList.j0 k l6.1 s0_0 c5.2.1 c5.2.2)))) = some (r1, r2, r3) := h
 clear h; replace H := Option.bind_eq_some_iff.mp H; obtain ⟨⟨q3, F0, F1⟩, B6, H⟩ := H
 replace H : ((spec_l1Once.f s0_0 F0 F1 40).bind fun c5 => (if c5.1 = true then ((spec_l1Below.f s0_0 c5.2.1 c5.2.2 2).bind fun c1 => (spec_l5DrawList.j0 k (wrap64 (a1 + c1.1)) s0_0 c1.2.1 c1.2.2)) else (spec_l5DrawList.j0 k q3 s0_0 c5.2.1 c5.2.2))) = some (r1, r2, r3) := H
 have A3 := mk_ B6; clear B6; replace H := Option.bind_eq_some_iff.mp H; obtain ⟨⟨F2, n6, n7⟩, o1, H⟩ := H
 replace H : (if F2 = true then ((spec_l1Below.f s0_0 n6 n7 2).bind fun c1 => (spec_l5DrawList.j0 k (wrap64 (a1 + c1.1)) s0_0 c1.2.1 c1.2.2)) else (spec_l5DrawList.j0 k q3 s0_0 n6 n7)) = some (r1, r2, r3) := H
 have A4 := mk_ o1; clear o1; have N1 := mk_ H; clear H
 go_enter Try.func86, Try.ntmps86
 go_upto_if 12 with (first | ((with_reducible refine gc_ 96 rfl ?_); refine gl_ (some 10) rfl Try.func96 #[.pointer (some ⟨g, 0, none⟩), .int .i64 14] ?_; (with_reducible refine (spec_l1Below.calls g s0_0 s0_1 s0_2 14 q3 F0 F1 w0 _ ?a4 ?a6 A3.out).mono ?_); (case a4 => repeat (first | (with_reducible first | exact a5.out | apply IsS141.alloc | apply IsS141.drewN | apply IsS141.drew | apply IsS141.set_1 | apply IsS141.set_2) | exact a5.out)); (case a6 => exact HB.out); rintro e w6 ⟨rfl, hi, hb, hk⟩; refine ⟨_, rfl, ?_⟩; replace HK := mk_ (KeepBut.trans (by repeat (first | (with_reducible first | exact HK.out | apply KeepBut.set_ | apply keep_drewN | apply keep_drew | apply keep_alloc) | exact HK.out)) hk (.inl rfl)); replace HB := mk_ (hb); replace a5 := mk_ (hi); (try clear hb); (try clear g2); (try clear hk); (try clear hi)) | ((with_reducible refine gc_ 99 rfl ?_); refine gl_ (some 12) rfl Try.func99 #[.pointer (some ⟨g, 0, none⟩), .int .i64 40] ?_; (with_reducible refine (spec_l1Once.calls g s0_0 F0 F1 40 F2 n6 n7 w0 _ ?a4 ?a6 A4.out).mono ?_); (case a4 => repeat (first | (with_reducible first | exact a5.out | apply IsS141.alloc | apply IsS141.drewN | apply IsS141.drew | apply IsS141.set_1 | apply IsS141.set_2) | exact a5.out)); (case a6 => exact HB.out); rintro e w7 ⟨rfl, hi, hb, hk⟩; refine ⟨_, rfl, ?_⟩; replace HK := mk_ (KeepBut.trans (by repeat (first | (with_reducible first | exact HK.out | apply KeepBut.set_ | apply keep_drewN | apply keep_drew | apply keep_alloc) | exact HK.out)) hk (.inl rfl)); replace HB := mk_ (hb); replace a5 := mk_ (hi); (try clear hb); (try clear g2); (try clear hk); (try clear hi)))
 (try simp only [Act.put, List.setIfInBounds_toArray, List.set_cons_zero, List.set_cons_succ])
 go_cut [5] (fun v5 wc => ∃ (kq : Nat) (h2 : Int) (j1 : Int) (j3 : Int), v5 = .int .i64 h2 ∧ Aside0 (spec_l5DrawList.j0 kq h2 s0_0 j1 j3 = some (r1, r2, r3)) ∧ Aside0 (kq ≤ k) ∧ Aside0 (IsS141 w0 wc g s0_0 j1 j3) ∧ Aside0 (KeepBut w wc g none) ∧ Aside0 (Below w0.heap.size w0 wc))
 case first =>
  have H := N1.out; clear N1; by_cases c8 : F2 = true
  ·subst c8
   have H1 : ((spec_l1Below.f s0_0 n6 n7 2).bind fun c1 => (spec_l5DrawList.j0 k (wrap64 (a1 + c1.1)) s0_0 c1.2.1 c1.2.2)) = some (r1, r2, r3) := by rw [if_pos rfl] at H; exact H
   clear H
   have H := H1
   clear H1; replace H := Option.bind_eq_some_iff.mp H; obtain ⟨⟨F3, F4, F5⟩, F8, H⟩ := H
   replace H : (spec_l5DrawList.j0 k (wrap64 (a1 + F3)) s0_0 F4 F5) = some (r1, r2, r3) := H
   have A9 := mk_ F8; clear F8
   have H' := mk_ H
   clear H
   go_wp2_with (first | ((with_reducible refine gc_ 96 rfl ?_); refine gl_ (some 15) rfl Try.func96 #[.pointer (some ⟨g, 0, none⟩), .int .i64 2] ?_; (with_reducible refine (spec_l1Below.calls g s0_0 n6 n7 2 F3 F4 F5 w0 _ ?a4 ?a6 A9.out).mono ?_); (case a4 => repeat (first | (with_reducible first | exact a5.out | apply IsS141.alloc | apply IsS141.drewN | apply IsS141.drew | apply IsS141.set_1 | apply IsS141.set_2) | exact a5.out)); (case a6 => exact HB.out); rintro e N0 ⟨rfl, hi, hb, hk⟩; refine ⟨_, rfl, ?_⟩; replace HK := mk_ (KeepBut.trans (by repeat (first | (with_reducible first | exact HK.out | apply KeepBut.set_ | apply keep_drewN | apply keep_drew | apply keep_alloc) | exact HK.out)) hk (.inl rfl)); replace HB := mk_ (hb); replace a5 := mk_ (hi); (try clear hb); (try clear g2); (try clear hk); (try clear hi)))
   go_meet
   case rel => exact ⟨_, (wrap64 (a1 + F3)), (F4), (F5), rf_, H', ⟨by first | omega | exact Nat.le_refl _⟩, ⟨by repeat (first | (with_reducible first | exact a5.out | apply IsS141.alloc | apply IsS141.drewN | apply IsS141.drew | apply IsS141.set_1 | apply IsS141.set_2) | exact a5.out)⟩, ⟨by repeat (first | (with_reducible first | exact HK.out | apply KeepBut.set_ | apply keep_drewN | apply keep_drew | apply keep_alloc) | exact HK.out)⟩, ⟨by repeat (first | (with_reducible first | exact HB.out | apply below_alloc | apply pw_below_drewN | apply below_drew1 | refine below_set ?_ (IsS141.ge a5.out)) | exact HB.out)⟩⟩
  ·replace c8 := Bool.eq_false_iff.mpr c8; subst c8
   have H1 : (spec_l5DrawList.j0 k q3 s0_0 n6 n7) = some (r1, r2, r3) := by rw [if_neg (show ¬ (false = true) by decide)] at H; exact H
   clear H
   have H := H1
   clear H1
   have H' := mk_ H
   clear H; go_wp2; go_meet
   case rel => exact ⟨_, (q3), (n6), (n7), rf_, H', ⟨by first | omega | exact Nat.le_refl _⟩, ⟨by repeat (first | (with_reducible first | exact a5.out | apply IsS141.alloc | apply IsS141.drewN | apply IsS141.drew | apply IsS141.set_1 | apply IsS141.set_2) | exact a5.out)⟩, ⟨by repeat (first | (with_reducible first | exact HK.out | apply KeepBut.set_ | apply keep_drewN | apply keep_drew | apply keep_alloc) | exact HK.out)⟩, ⟨by repeat (first | (with_reducible first | exact HB.out | apply below_alloc | apply pw_below_drewN | apply below_drew1 | refine below_set ?_ (IsS141.ge a5.out)) | exact HB.out)⟩⟩
 case rest =>
  clear N1
  obtain ⟨kq, h2, j1, j3, rfl, HA, M5, a5, HK, HB⟩ := hcut
  cases kq with
  | zero => exact absurd HA.out (by simp [spec_l5DrawList.j0])
  | succ kj4 =>
   have H := HA.out; clear HA
   simp only [spec_l5DrawList.j0] at H
   obtain ⟨I3, n1⟩ : ∃ y_ : List (Fl), y_ = (([] : List (Fl))) := ⟨_, rfl⟩
   replace H : (spec_l5DrawList.l0 kj4 h2 I3 0 s0_0 j1 j3) = some (r1, r2, r3) := by first | (rw [n1]; with_reducible exact H) | (have H2_ := (Option.bind_some _ _).symm.trans H; rw [n1]; with_reducible exact H2_) | (have H2_ := (Option.bind_some _ _).symm.trans H; with_reducible exact H2_) | with_reducible exact H | (rw [n1]; exact H) | exact H
   have B7 := mk_ n1; clear n1
   have H' := mk_ H
   clear H
   go_wp2_with (first | ((with_reducible refine gd_ 17 rfl ?_); refine Kd.R_lit (Kd.fl .f64) _ 36 ?hg (N := 17) ?hd (xs := ([] : List (Fl))) (inner := []) (ok := fun _ => True) (okp := fun _ => True) ?hr ?hp (fun _ hk => hk) trivial (Below.refl _ _) (Nat.le_refl _) (by simp) ?_; (case hd => rfl); (case hg => rfl); (case hr => exact hr_); (case hp => exact (Reps.none _ _)); intro v226 N3 q4 hb hg_ hnew_; clear hg_ hnew_; (first | rw [← B7.out] at q4 | (simp only [Int.reduceToNat] at q4; rw [← B7.out] at q4)); have I4 := mk_ (Kd.R_lower q4 (keep_size (w := w) (g := g) (row := none) (by repeat (first | (with_reducible first | exact HK.out | apply KeepBut.set_ | apply keep_drewN | apply keep_drew | apply keep_alloc) | exact HK.out)))); replace a5 := mk_ (IsS141.below (by repeat (first | (with_reducible first | exact a5.out | apply IsS141.alloc | apply IsS141.drewN | apply IsS141.drew | apply IsS141.set_1 | apply IsS141.set_2) | exact a5.out)) hb); replace HK := mk_ (KeepBut.trans (by repeat (first | (with_reducible first | exact HK.out | apply KeepBut.set_ | apply keep_drewN | apply keep_drew | apply keep_alloc) | exact HK.out)) (KeepBut.of_below hb g none) (.inl rfl)); replace HB := bp_ HB hb; clear hb q4))
   go_loopg [6, 7] kj4 (fun kq v6 v7 w' => ∃ (d4 : List (Fl)) (h3 : Int) (d9 : Int) (g0 : Int), v7 = .int .i64 h3 ∧ Aside0 (spec_l5DrawList.l0 kq h2 d4 h3 s0_0 d9 g0 = some (r1, r2, r3)) ∧ Aside0 (kq ≤ kj4) ∧ Aside0 (Kd.R (Kd.fl .f64) 36 w' w.heap.size (fun _ => True) v6 d4) ∧ Aside0 (IsS141 w0 w' g s0_0 d9 g0) ∧ Aside0 (KeepBut w w' g none) ∧ Aside0 (Below w0.heap.size w0 w'))
   case atStart => exact ⟨(I3), (0), (j1), (j3), rf_, H', ⟨Nat.le_refl _⟩, kw_ I4, ⟨by repeat (first | (with_reducible first | exact a5.out | apply IsS141.alloc | apply IsS141.drewN | apply IsS141.drew | apply IsS141.set_1 | apply IsS141.set_2) | exact a5.out)⟩, ⟨by repeat (first | (with_reducible first | exact HK.out | apply KeepBut.set_ | apply keep_drewN | apply keep_drew | apply keep_alloc) | exact HK.out)⟩, ⟨by repeat (first | (with_reducible first | exact HB.out | apply below_alloc | apply pw_below_drewN | apply below_drew1 | refine below_set ?_ (IsS141.ge a5.out)) | exact HB.out)⟩⟩
   case round =>
    clear H'
    obtain ⟨d4, h3, d9, g0, rfl, HA, M6, h4, a5, HK, HB⟩ := hrel
    cases gk with
    | zero => exact absurd HA.out (by simp [spec_l5DrawList.l0])
    | succ k2 =>
     have H := HA.out; clear HA
     simp only [spec_l5DrawList.l0] at H
     by_cases o3 : h3 < h2
     ·rw [if_pos o3] at H; have p1 : decide (h3 < h2) = true := decide_eq_true o3; clear o3; replace H := Option.bind_eq_some_iff.mp H; obtain ⟨⟨n8, n9, o0⟩, I5, H⟩ := H
      replace H : ((spec_l1Once.f s0_0 n9 o0 6).bind fun g9 => (if g9.1 = true then ((spec_l5NaN.f (cn .f64 0)).bind fun j7 => (if d4.length < 17592186044416 then (spec_l5DrawList.l0 k2 h2 (d4 ++ [j7]) (wrap64 (h3 + 1)) s0_0 g9.2.1 g9.2.2) else (none))) else (if d4.length < 17592186044416 then (spec_l5DrawList.l0 k2 h2 (d4 ++ [n8]) (wrap64 (h3 + 1)) s0_0 g9.2.1 g9.2.2) else (none)))) = some (r1, r2, r3) := H
      have O2 := mk_ I5; clear I5; replace H := Option.bind_eq_some_iff.mp H; obtain ⟨⟨I6, j5, j6⟩, p4, H⟩ := H
      replace H : (if I6 = true then ((spec_l5NaN.f (cn .f64 0)).bind fun j7 => (if d4.length < 17592186044416 then (spec_l5DrawList.l0 k2 h2 (d4 ++ [j7]) (wrap64 (h3 + 1)) s0_0 j5 j6) else (none))) else (if d4.length < 17592186044416 then (spec_l5DrawList.l0 k2 h2 (d4 ++ [n8]) (wrap64 (h3 + 1)) s0_0 j5 j6) else (none))) = some (r1, r2, r3) := H
      have J4 := mk_ p4; clear p4; by_cases M7 : I6 = true
      ·subst M7
       have H1 : ((spec_l5NaN.f (cn .f64 0)).bind fun j7 => (if d4.length < 17592186044416 then (spec_l5DrawList.l0 k2 h2 (d4 ++ [j7]) (wrap64 (h3 + 1)) s0_0 j5 j6) else (none))) = some (r1, r2, r3) := by rw [if_pos rfl] at H; exact H
       clear H
       have H := H1
       clear H1; replace H := Option.bind_eq_some_iff.mp H; obtain ⟨j7, I7, H⟩ := H
       replace H : (if d4.length < 17592186044416 then (spec_l5DrawList.l0 k2 h2 (d4 ++ [j7]) (wrap64 (h3 + 1)) s0_0 j5 j6) else (none)) = some (r1, r2, r3) := H
       have P4 := mk_ I7; clear I7; by_cases M8 : d4.length < 17592186044416
       ·rw [if_pos M8] at H; have LMc18 := mk_ M8; clear M8
        obtain ⟨I8, n2⟩ : ∃ y_ : List (Fl), y_ = (d4 ++ [j7]) := ⟨_, rfl⟩
        replace H : (spec_l5DrawList.l0 k2 h2 I8 (wrap64 (h3 + 1)) s0_0 j5 j6) = some (r1, r2, r3) := by first | (rw [n2]; with_reducible exact H) | (have H2_ := (Option.bind_some _ _).symm.trans H; rw [n2]; with_reducible exact H2_) | (have H2_ := (Option.bind_some _ _).symm.trans H; with_reducible exact H2_) | with_reducible exact H | (rw [n2]; exact H) | exact H
        have I9 := mk_ n2; clear n2
        have H' := mk_ H
        clear H
        go_wp2_with (first | ((with_reducible refine gc_ 87 rfl ?_); refine gl_ (some 24) rfl Try.func87 #[.pointer (some ⟨g, 0, none⟩)] ?_; (with_reducible refine (spec_l5Draw.calls k2 g s0_0 d9 g0 n8 n9 o0 w0 _ ?a4 ?a6 O2.out).mono ?_); (case a4 => repeat (first | (with_reducible first | exact a5.out | apply IsS141.alloc | apply IsS141.drewN | apply IsS141.drew | apply IsS141.set_1 | apply IsS141.set_2) | exact a5.out)); (case a6 => exact HB.out); rintro e O5 ⟨q5, rfl, o2, hi, hb, hk⟩; refine ⟨_, rfl, ?_⟩; replace h4 := mk_ (Kd.R_mono (Kd.R_keep (IsS141.apart (show IsS141 w0 _ g s0_0 d9 g0 from by repeat (first | (with_reducible first | exact a5.out | apply IsS141.alloc | apply IsS141.drewN | apply IsS141.drew | apply IsS141.set_1 | apply IsS141.set_2) | exact a5.out)) (by exact h4.out) (by decide)) hk (fun _ h => h.2)) (fun _ h => h.1)); replace HK := mk_ (KeepBut.trans (by repeat (first | (with_reducible first | exact HK.out | apply KeepBut.set_ | apply keep_drewN | apply keep_drew | apply keep_alloc) | exact HK.out)) hk (.inl rfl)); replace HB := mk_ (hb); replace a5 := mk_ (hi); (try clear hb); (try clear g2); (try clear hk); (try clear hi)) | ((with_reducible refine gc_ 99 rfl ?_); refine gl_ (some 26) rfl Try.func99 #[.pointer (some ⟨g, 0, none⟩), .int .i64 6] ?_; (with_reducible refine (spec_l1Once.calls g s0_0 n9 o0 6 true j5 j6 w0 _ ?a4 ?a6 J4.out).mono ?_); (case a4 => repeat (first | (with_reducible first | exact a5.out | apply IsS141.alloc | apply IsS141.drewN | apply IsS141.drew | apply IsS141.set_1 | apply IsS141.set_2) | exact a5.out)); (case a6 => exact HB.out); rintro e Q6 ⟨rfl, hi, hb, hk⟩; refine ⟨_, rfl, ?_⟩; replace h4 := mk_ (Kd.R_mono (Kd.R_keep (IsS141.apart (show IsS141 w0 _ g s0_0 n9 o0 from by repeat (first | (with_reducible first | exact a5.out | apply IsS141.alloc | apply IsS141.drewN | apply IsS141.drew | apply IsS141.set_1 | apply IsS141.set_2) | exact a5.out)) (by exact h4.out) (by decide)) hk (fun _ h => h.2)) (fun _ h => h.1)); replace HK := mk_ (KeepBut.trans (by repeat (first | (with_reducible first | exact HK.out | apply KeepBut.set_ | apply keep_drewN | apply keep_drew | apply keep_alloc) | exact HK.out)) hk (.inl rfl)); replace HB := mk_ (hb); replace a5 := mk_ (hi); (try clear hb); (try clear g2); (try clear hk); (try clear hi)) | ((with_reducible refine gc_ 100 rfl ?_); refine gl_ (some 27) rfl Try.func100 #[.float .f64 0] ?_; (with_reducible refine (spec_l5NaN.calls 0 (cn .f64 0) j7 _ ?a4 P4.out).mono ?_); (case a4 => exact rfl); rintro e w' ⟨F6, rfl, B2, ⟨nd, rfl⟩⟩; refine ⟨_, rfl, ?_⟩) | ((with_reducible refine gate_builtin (b := .append) (xs := #[.tmp 28, .tmp 30]) rfl ?_); at_builtin; refine Kd.R_append (Kd.fl .f64) w.heap.size rfl (.tmp 28) (.tmp 30) 53 36 (.float .f64 0) 8 rfl Try.underlying53 info36 rfl (by decide) (by omega) u6 d4 j7 [.float .f64 F6] (fun _ => True) (fun _ => False) rfl rfl ?aP (fun _ hk => hk.elim) ?aF ?aO (Below.refl _ _) ?aS ?aL ?_; (case aP => exact Kd.M_fl B2); (case aF => exact (fun _ _ => trivial)); (case aO => exact (kx_ h4)); (case aS => exact (keep_size (w := w) (g := g) (row := none) (by repeat (first | (with_reducible first | exact HK.out | apply KeepBut.set_ | apply keep_drewN | apply keep_drew | apply keep_alloc) | exact HK.out)))); (case aL => have := LMc18.out; omega); intro v236 Q7 ho hb hg hat; rw [← I9.out] at ho; replace HB := mk_ (below_weaken (by repeat (first | (with_reducible first | exact HB.out | apply below_alloc | apply pw_below_drewN | apply below_drew1 | refine below_set ?_ (IsS141.ge a5.out)) | exact HB.out)) HL.out hb); replace a5 := mk_ (IsS141.grown (show IsS141 w0 _ g s0_0 j5 j6 from by repeat (first | (with_reducible first | exact a5.out | apply IsS141.alloc | apply IsS141.drewN | apply IsS141.drew | apply IsS141.set_1 | apply IsS141.set_2) | exact a5.out)) hg (IsS141.own_ne a5.out h4.out (by decide))); replace HK := mk_ (KeepBut.trans (by repeat (first | (with_reducible first | exact HK.out | apply KeepBut.set_ | apply keep_drewN | apply keep_drew | apply keep_alloc) | exact HK.out)) (KeepBut.of_grown hg g) (Kd.R_base2 h4.out)); have J0 := mk_ (ho); clear h4; clear ho hb hg hat))
        go_roundg k2
        case measure => have := M5.out; have := M6.out; omega
        case rel => exact ⟨(I8), (wrap64 (h3 + 1)), (j5), (j6), rf_, H', ⟨by have := M5.out; have := M6.out; omega⟩, kw_ J0, ⟨by repeat (first | (with_reducible first | exact a5.out | apply IsS141.alloc | apply IsS141.drewN | apply IsS141.drew | apply IsS141.set_1 | apply IsS141.set_2) | exact a5.out)⟩, ⟨by repeat (first | (with_reducible first | exact HK.out | apply KeepBut.set_ | apply keep_drewN | apply keep_drew | apply keep_alloc) | exact HK.out)⟩, ⟨by repeat (first | (with_reducible first | exact HB.out | apply below_alloc | apply pw_below_drewN | apply below_drew1 | refine below_set ?_ (IsS141.ge a5.out)) | exact HB.out)⟩⟩
       ·rw [if_neg M8] at H
        exact absurd H (by simp)
      ·replace M7 := Bool.eq_false_iff.mpr M7; subst M7
       have H1 : (if d4.length < 17592186044416 then (spec_l5DrawList.l0 k2 h2 (d4 ++ [n8]) (wrap64 (h3 + 1)) s0_0 j5 j6) else (none)) = some (r1, r2, r3) := by rw [if_neg (show ¬ (false = true) by decide)] at H; exact H
       clear H
       have H := H1
       clear H1; by_cases M9 : d4.length < 17592186044416
       ·rw [if_pos M9] at H; have LMc22 := mk_ M9; clear M9
        obtain ⟨J1, n3⟩ : ∃ y_ : List (Fl), y_ = (d4 ++ [n8]) := ⟨_, rfl⟩
        replace H : (spec_l5DrawList.l0 k2 h2 J1 (wrap64 (h3 + 1)) s0_0 j5 j6) = some (r1, r2, r3) := by first | (rw [n3]; with_reducible exact H) | (have H2_ := (Option.bind_some _ _).symm.trans H; rw [n3]; with_reducible exact H2_) | (have H2_ := (Option.bind_some _ _).symm.trans H; with_reducible exact H2_) | with_reducible exact H | (rw [n3]; exact H) | exact H
        have J2 := mk_ n3; clear n3
        have H' := mk_ H
        clear H
        go_wp2_with (first | ((with_reducible refine gc_ 87 rfl ?_); refine gl_ (some 24) rfl Try.func87 #[.pointer (some ⟨g, 0, none⟩)] ?_; (with_reducible refine (spec_l5Draw.calls k2 g s0_0 d9 g0 n8 n9 o0 w0 _ ?a4 ?a6 O2.out).mono ?_); (case a4 => repeat (first | (with_reducible first | exact a5.out | apply IsS141.alloc | apply IsS141.drewN | apply IsS141.drew | apply IsS141.set_1 | apply IsS141.set_2) | exact a5.out)); (case a6 => exact HB.out); rintro e Q8 ⟨q5, rfl, o2, hi, hb, hk⟩; refine ⟨_, rfl, ?_⟩; replace h4 := mk_ (Kd.R_mono (Kd.R_keep (IsS141.apart (show IsS141 w0 _ g s0_0 d9 g0 from by repeat (first | (with_reducible first | exact a5.out | apply IsS141.alloc | apply IsS141.drewN | apply IsS141.drew | apply IsS141.set_1 | apply IsS141.set_2) | exact a5.out)) (by exact h4.out) (by decide)) hk (fun _ h => h.2)) (fun _ h => h.1)); replace HK := mk_ (KeepBut.trans (by repeat (first | (with_reducible first | exact HK.out | apply KeepBut.set_ | apply keep_drewN | apply keep_drew | apply keep_alloc) | exact HK.out)) hk (.inl rfl)); replace HB := mk_ (hb); replace a5 := mk_ (hi); (try clear hb); (try clear g2); (try clear hk); (try clear hi)) | ((with_reducible refine gc_ 99 rfl ?_); refine gl_ (some 26) rfl Try.func99 #[.pointer (some ⟨g, 0, none⟩), .int .i64 6] ?_; (with_reducible refine (spec_l1Once.calls g s0_0 n9 o0 6 false j5 j6 w0 _ ?a4 ?a6 J4.out).mono ?_); (case a4 => repeat (first | (with_reducible first | exact a5.out | apply IsS141.alloc | apply IsS141.drewN | apply IsS141.drew | apply IsS141.set_1 | apply IsS141.set_2) | exact a5.out)); (case a6 => exact HB.out); rintro e Q9 ⟨rfl, hi, hb, hk⟩; refine ⟨_, rfl, ?_⟩; replace h4 := mk_ (Kd.R_mono (Kd.R_keep (IsS141.apart (show IsS141 w0 _ g s0_0 n9 o0 from by repeat (first | (with_reducible first | exact a5.out | apply IsS141.alloc | apply IsS141.drewN | apply IsS141.drew | apply IsS141.set_1 | apply IsS141.set_2) | exact a5.out)) (by exact h4.out) (by decide)) hk (fun _ h => h.2)) (fun _ h => h.1)); replace HK := mk_ (KeepBut.trans (by repeat (first | (with_reducible first | exact HK.out | apply KeepBut.set_ | apply keep_drewN | apply keep_drew | apply keep_alloc) | exact HK.out)) hk (.inl rfl)); replace HB := mk_ (hb); replace a5 := mk_ (hi); (try clear hb); (try clear g2); (try clear hk); (try clear hi)) | ((with_reducible refine gate_builtin (b := .append) (xs := #[.tmp 28, .tmp 30]) rfl ?_); at_builtin; refine Kd.R_append (Kd.fl .f64) w.heap.size rfl (.tmp 28) (.tmp 30) 53 36 (.float .f64 0) 8 rfl Try.underlying53 info36 rfl (by decide) (by omega) u6 d4 n8 [.float .f64 q5] (fun _ => True) (fun _ => False) rfl rfl ?aP (fun _ hk => hk.elim) ?aF ?aO (Below.refl _ _) ?aS ?aL ?_; (case aP => exact Kd.M_fl o2); (case aF => exact (fun _ _ => trivial)); (case aO => exact (by exact h4.out)); (case aS => exact (keep_size (w := w) (g := g) (row := none) (by repeat (first | (with_reducible first | exact HK.out | apply KeepBut.set_ | apply keep_drewN | apply keep_drew | apply keep_alloc) | exact HK.out)))); (case aL => have := LMc22.out; omega); intro v239 R0 ho hb hg hat; rw [← J2.out] at ho; replace a5 := mk_ (IsS141.grown (show IsS141 w0 _ g s0_0 j5 j6 from by repeat (first | (with_reducible first | exact a5.out | apply IsS141.alloc | apply IsS141.drewN | apply IsS141.drew | apply IsS141.set_1 | apply IsS141.set_2) | exact a5.out)) hg (IsS141.own_ne a5.out h4.out (by decide))); replace HB := mk_ (below_weaken (by exact HB.out) HL.out hb); replace HK := mk_ (KeepBut.trans (by repeat (first | (with_reducible first | exact HK.out | apply KeepBut.set_ | apply keep_drewN | apply keep_drew | apply keep_alloc) | exact HK.out)) (KeepBut.of_grown hg g) (Kd.R_base2 h4.out)); have J3 := mk_ (ho); clear h4; clear ho hb hg hat))
        go_roundg k2
        case measure => have := M5.out; have := M6.out; omega
        case rel => exact ⟨(J1), (wrap64 (h3 + 1)), (j5), (j6), rf_, H', ⟨by have := M5.out; have := M6.out; omega⟩, kw_ J3, ⟨by repeat (first | (with_reducible first | exact a5.out | apply IsS141.alloc | apply IsS141.drewN | apply IsS141.drew | apply IsS141.set_1 | apply IsS141.set_2) | exact a5.out)⟩, ⟨by repeat (first | (with_reducible first | exact HK.out | apply KeepBut.set_ | apply keep_drewN | apply keep_drew | apply keep_alloc) | exact HK.out)⟩, ⟨by repeat (first | (with_reducible first | exact HB.out | apply below_alloc | apply pw_below_drewN | apply below_drew1 | refine below_set ?_ (IsS141.ge a5.out)) | exact HB.out)⟩⟩
       ·rw [if_neg M9] at H
        exact absurd H (by simp)
     ·rw [if_neg o3] at H; have p1 : decide (h3 < h2) = false := decide_eq_false o3; clear o3
      simp only [Option.some.injEq, Prod.mk.injEq] at H
      obtain ⟨rfl, rfl, rfl⟩ := H; go_wp2
      go_ret
      exact ⟨_, re_, by (with_reducible repeat (first | apply Kd.R_alloc | apply Kd.R_drewN | apply Kd.R_drew)); exact h4.out, by repeat (first | (with_reducible first | exact a5.out | apply IsS141.alloc | apply IsS141.drewN | apply IsS141.drew | apply IsS141.set_1 | apply IsS141.set_2) | exact a5.out), by repeat (first | (with_reducible first | exact HB.out | apply below_alloc | apply pw_below_drewN | apply below_drew1 | refine below_set ?_ (IsS141.ge a5.out)) | exact HB.out), by repeat (first | (with_reducible first | exact HK.out | apply KeepBut.set_ | apply keep_drewN | apply keep_drew | apply keep_alloc) | exact HK.out)⟩

end Go.Proofs.Ytkginilghcepbaa.QFnFlown
-- squeezed
