/- Lean functions that tell what the Go functions used by one law answer, and for each a proof that the Go code comes to just these answers; no condition. Printed by this session's own program over the kit's printer. -/
import Derived.Test.YtkginilghcepbaaWSq
import Derived.Test.YtkginilghcepbaaQFnExactFlutterx0
namespace Go.Proofs.Ytkginilghcepbaa.QFnExactFlutter
open Go.RowKit Go.Proofs.YtkginilghcepbaaW.PrintWords Go.Proofs.YtkginilghcepbaaW.PrintLast Go.Proofs.YtkginilghcepbaaW.PrintMore
attribute [local go_sem] max2_int min2_int max_two min_two max_three min_three max_four min_four   -- for this text's walks alone
attribute [local go_sem high] go_eql go_neq go_lss go_leq go_gtr go_geq go_store   -- for this text's walks alone
set_option linter.unusedVariables false
set_option linter.unusedSimpArgs false

/-! ### laws_sameFloat: function 64 -/
def laws_sameFloat.j0 : Nat → Fl → Fl → Bool → Option (Bool)
 | 0, _, _, _ => none
 | k + 1, x0, x1, j1 => if j1 = true then (if (fcmp .neq .f64 x0 x0) = true then (some (fcmp .neq .f64 x1 x1)) else (some false)) else (if (fcmp .eql .f64 x0 (cn .f64 0)) = true then (if (fcmp .eql .f64 x1 (cn .f64 0)) = true then (some ((fcmp .gtr .f64 (fop .quo .f64 (cn .f64 4607182418800017408) x0) (cn .f64 0)) == (fcmp .gtr .f64 (fop .quo .f64 (cn .f64 4607182418800017408) x1) (cn .f64 0)))) else (some (fcmp .eql .f64 x0 x1))) else (some (fcmp .eql .f64 x0 x1)))
def laws_sameFloat.f (k : Nat) (a0 : Fl) (a1 : Fl) : Option (Bool) := if (fcmp .neq .f64 a0 a0) = true then (laws_sameFloat.j0 k a0 a1 true) else (laws_sameFloat.j0 k a0 a1 (fcmp .neq .f64 a1 a1))
theorem laws_sameFloat.mono_l : ∀ k, (∀ y0 y1 y2, LeO (laws_sameFloat.j0 k y0 y1 y2) (laws_sameFloat.j0 (k + 1) y0 y1 y2))
 | 0 => fun _ _ _ r h => by simp [laws_sameFloat.j0] at h
 | k + 1 => by
  have c0 := laws_sameFloat.mono_l k
  ·intro y0 y1 y2
   unfold laws_sameFloat.j0
   repeat' first
   | (with_reducible exact c0 _ _ _)
   | (with_reducible exact LeO.refl _)
   | (with_reducible exact LeO.none _)
   | (with_reducible refine LeO.ite ?_ ?_)
   | (with_reducible refine LeO.bind ?_ (fun _ => ?_))
   | exact c0 _ _ _
   | exact LeO.none _
   | refine LeO.ite ?_ ?_
   | refine LeO.bind ?_ (fun _ => ?_)
theorem laws_sameFloat.mono : ∀ a0 a1 k, LeO (laws_sameFloat.f k a0 a1) (laws_sameFloat.f (k + 1) a0 a1) := by
 intro a0 a1 k
 have c0 := laws_sameFloat.mono_l k
 unfold laws_sameFloat.f
 repeat' first
   | (with_reducible exact c0 _ _ _)
   | (with_reducible exact LeO.refl _)
   | (with_reducible exact LeO.none _)
   | (with_reducible refine LeO.ite ?_ ?_)
   | (with_reducible refine LeO.bind ?_ (fun _ => ?_))
   | exact c0 _ _ _
   | exact LeO.none _
   | refine LeO.ite ?_ ?_
   | refine LeO.bind ?_ (fun _ => ?_)
set_option maxHeartbeats 8000000 in
set_option maxRecDepth 100000 in
theorem laws_sameFloat.calls (k : Nat) (b_a0 : Nat) (a0 : Fl) (b_a1 : Nat) (a1 : Fl) (r : Bool) (w : World) (hF_a0 : cn .f64 b_a0 = a0) (hF_a1 : cn .f64 b_a1 = a1) (h : laws_sameFloat.f k a0 a1 = some r) :
  Calls Try.prog 64 #[.float .f64 b_a0, .float .f64 b_a1] w fun e w' => e = .returned (.bool r) ∧ Drawn0 w w' := by
 have H : (if (fcmp .neq .f64 a0 a0) = true then (laws_sameFloat.j0 k a0 a1 true) else (laws_sameFloat.j0 k a0 a1 (fcmp .neq .f64 a1 a1))) = some r := h
 clear h; have h0 := mk_ H; clear H
 go_enter Try.func64, Try.ntmps64
 go_upto_region 1 with (fail)
 go_cut [12] (fun v12 wc => ∃ (kq : Nat) (b2 : Bool), v12 = .bool b2 ∧ Aside0 (laws_sameFloat.j0 kq a0 a1 b2 = some r) ∧ Aside0 (kq ≤ k) ∧ Drawn0 w wc)
 case first =>
  have H := h0.out; clear h0; by_cases c4 : (fcmp .neq .f64 a0 a0) = true
  ·rw [if_pos c4] at H
   have b3 : (fcmp .neq .f64 a0 a0) = true := c4
   clear c4
   (first | rw [b3] | (simp only [i64_w, i32_w]; rw [b3]) | skip)
   have H' := mk_ H
   clear H; go_wp2; go_meet
   case rel => exact ⟨_, (true), rf_, H', ⟨by first | omega | exact Nat.le_refl _⟩, by repeat (first | exact Drawn0.refl _ | apply Drawn0.step)⟩
  ·rw [if_neg c4] at H
   have b3 : (fcmp .neq .f64 a0 a0) = false := by simpa using c4
   clear c4
   (first | rw [b3] | (simp only [i64_w, i32_w]; rw [b3]) | skip)
   have H' := mk_ H
   clear H; go_wp2; go_meet
   case rel => exact ⟨_, ((fcmp .neq .f64 a1 a1)), rf_, H', ⟨by first | omega | exact Nat.le_refl _⟩, by repeat (first | exact Drawn0.refl _ | apply Drawn0.step)⟩
 case rest =>
  clear h0
  obtain ⟨kq, b2, rfl, HA, j5, ⟨mc2, rfl⟩⟩ := hcut
  cases kq with
  | zero => exact absurd HA.out (by simp [laws_sameFloat.j0])
  | succ kj2 =>
   have H := HA.out; clear HA
   simp only [laws_sameFloat.j0] at H
   by_cases c5 : b2 = true
   ·subst c5; rw [if_pos rfl] at H
    by_cases c6 : (fcmp .neq .f64 a0 a0) = true
    ·rw [if_pos c6] at H
     have h1 : (fcmp .neq .f64 a0 a0) = true := c6
     clear c6; obtain rfl := Option.some.inj H; go_wp2; go_ret
     exact ⟨by first | rfl | (simp; done) | (simp [*]; done), by repeat (first | exact Drawn0.refl _ | apply Drawn0.step)⟩
    ·rw [if_neg c6] at H
     have h1 : (fcmp .neq .f64 a0 a0) = false := by simpa using c6
     clear c6; obtain rfl := Option.some.inj H; go_wp2; go_ret
     exact ⟨by first | rfl | (simp; done) | (simp [*]; done), by repeat (first | exact Drawn0.refl _ | apply Drawn0.step)⟩
   ·replace c5 := Bool.eq_false_iff.mpr c5; subst c5; rw [if_neg (show ¬ (false = true) by decide)] at H; by_cases c7 : (fcmp .eql .f64 a0 (cn .f64 0)) = true
    ·rw [if_pos c7] at H
     have h2 : (fcmp .eql .f64 a0 (cn .f64 0)) = true := c7
     clear c7; by_cases c8 : (fcmp .eql .f64 a1 (cn .f64 0)) = true
     ·rw [if_pos c8] at H
      have h3 : (fcmp .eql .f64 a1 (cn .f64 0)) = true := c8
      clear c8
      obtain ⟨ft170, hft170⟩ : ∃ y_ : Fl, y_ = (fop .quo .f64 (cn .f64 4607182418800017408) a0) := ⟨_, rfl⟩
      replace H : (some ((fcmp .gtr .f64 ft170 (cn .f64 0)) == (fcmp .gtr .f64 (fop .quo .f64 (cn .f64 4607182418800017408) a1) (cn .f64 0)))) = some r := by first | (rw [hft170]; with_reducible exact H) | (have H2_ := (Option.bind_some _ _).symm.trans H; rw [hft170]; with_reducible exact H2_) | (have H2_ := (Option.bind_some _ _).symm.trans H; with_reducible exact H2_) | with_reducible exact H | (rw [hft170]; exact H) | exact H
      have Nft170 := mk_ hft170; clear hft170
      obtain ⟨ft171, hft171⟩ : ∃ y_ : Fl, y_ = (fop .quo .f64 (cn .f64 4607182418800017408) a1) := ⟨_, rfl⟩
      replace H : (some ((fcmp .gtr .f64 ft170 (cn .f64 0)) == (fcmp .gtr .f64 ft171 (cn .f64 0)))) = some r := by first | (rw [hft171]; with_reducible exact H) | (have H2_ := (Option.bind_some _ _).symm.trans H; rw [hft171]; with_reducible exact H2_) | (have H2_ := (Option.bind_some _ _).symm.trans H; with_reducible exact H2_) | with_reducible exact H | (rw [hft171]; exact H) | exact H
      have Nft171 := mk_ hft171; clear hft171; obtain rfl := Option.some.inj H
      go_wp2_with (first | ((with_reducible refine gd_ 28 rfl ?_); refine fop_event rfl (N := 28) rfl (op := .quo) (by simp) rfl .f64 4607182418800017408 b_a0 (cn .f64 4607182418800017408) a0 rfl rfl rfl hF_a0 ?_; intro b_ft170 nf_ hF_; replace hF_ := hF_.trans Nft170.out.symm; have hF_ft170 := hF_; clear hF_) | ((with_reducible refine gd_ 31 rfl ?_); refine fop_event rfl (N := 31) rfl (op := .quo) (by simp) rfl .f64 4607182418800017408 b_a1 (cn .f64 4607182418800017408) a1 rfl rfl rfl hF_a1 ?_; intro b_ft171 nf_ hF_; replace hF_ := hF_.trans Nft171.out.symm; have hF_ft171 := hF_; clear hF_))
      go_ret
      exact ⟨by first | rfl | (simp; done) | (simp [*]; done), by repeat (first | exact Drawn0.refl _ | apply Drawn0.step)⟩
     ·rw [if_neg c8] at H
      have h3 : (fcmp .eql .f64 a1 (cn .f64 0)) = false := by simpa using c8
      clear c8; obtain rfl := Option.some.inj H; go_wp2; go_ret
      exact ⟨by first | rfl | (simp; done) | (simp [*]; done), by repeat (first | exact Drawn0.refl _ | apply Drawn0.step)⟩
    ·rw [if_neg c7] at H
     have h2 : (fcmp .eql .f64 a0 (cn .f64 0)) = false := by simpa using c7
     clear c7; obtain rfl := Option.some.inj H; go_wp2; go_ret
     exact ⟨by first | rfl | (simp; done) | (simp [*]; done), by repeat (first | exact Drawn0.refl _ | apply Drawn0.step)⟩

/-! ### laws_eqCx: function 22 -/
def laws_eqCx.f (k : Nat) (a0_0 : Fl) (a0_1 : Fl) (a1_0 : Fl) (a1_1 : Fl) : Option (Bool) := (laws_sameFloat.f k a0_0 a1_0).bind fun b4 => (if b4 = true then ((laws_sameFloat.f k a0_1 a1_1).bind fun b5 => (if b5 = true then (some true) else (some false))) else (some false))
theorem laws_eqCx.mono : ∀ a0 a1 a2 a3 k, LeO (laws_eqCx.f k a0 a1 a2 a3) (laws_eqCx.f (k + 1) a0 a1 a2 a3) := by
 intro a0 a1 a2 a3 k
 unfold laws_eqCx.f
 repeat' first
   | (with_reducible exact laws_sameFloat.mono _ _ _)
   | (with_reducible exact LeO.refl _)
   | (with_reducible exact LeO.none _)
   | (with_reducible refine LeO.ite ?_ ?_)
   | (with_reducible refine LeO.bind ?_ (fun _ => ?_))
   | exact laws_sameFloat.mono _ _ _
   | exact LeO.none _
   | refine LeO.ite ?_ ?_
   | refine LeO.bind ?_ (fun _ => ?_)
set_option maxHeartbeats 8000000 in
set_option maxRecDepth 100000 in
theorem laws_eqCx.calls (k : Nat) (b_a0_0 : Nat) (a0_0 : Fl) (b_a0_1 : Nat) (a0_1 : Fl) (b_a1_0 : Nat) (a1_0 : Fl) (b_a1_1 : Nat) (a1_1 : Fl) (r : Bool) (w : World) (hF_a0_0 : cn .f64 b_a0_0 = a0_0) (hF_a0_1 : cn .f64 b_a0_1 = a0_1) (hF_a1_0 : cn .f64 b_a1_0 = a1_0) (hF_a1_1 : cn .f64 b_a1_1 = a1_1) (h : laws_eqCx.f k a0_0 a0_1 a1_0 a1_1 = some r) :
  Calls Try.prog 22 #[.agg #[.float .f64 b_a0_0, .float .f64 b_a0_1], .agg #[.float .f64 b_a1_0, .float .f64 b_a1_1]] w fun e w' => e = .returned (.bool r) ∧ Below w.heap.size w w' := by
 have j2 := Try.underlying39
 have HB := mk_ (Below.refl w.heap.size w)
 have H : ((laws_sameFloat.f k a0_0 a1_0).bind fun b4 => (if b4 = true then ((laws_sameFloat.f k a0_1 a1_1).bind fun b5 => (if b5 = true then (some true) else (some false))) else (some false))) = some r := h
 clear h; replace H := Option.bind_eq_some_iff.mp H; obtain ⟨b4, h4, H⟩ := H; (try dsimp only at H); have A3 := mk_ h4; clear h4; by_cases c4 : b4 = true
 ·subst c4; rw [if_pos rfl] at H
  replace H := Option.bind_eq_some_iff.mp H; obtain ⟨b5, h5, H⟩ := H
  (try dsimp only at H); have A5 := mk_ h5; clear h5
  by_cases c6 : b5 = true
  ·subst c6; rw [if_pos rfl] at H
   obtain rfl := Option.some.inj H
   go_enter Try.func22, Try.ntmps22
   go_wp2_with (first | ((with_reducible refine gd_ 2 rfl ?_); refine box_event ?hg (N := 2) ?hd (cs := #[.float .f64 b_a0_0, .float .f64 b_a0_1]) (t := 39) ?hr ?_; (case hd => rfl); (case hg => rfl); (case hr => exact hr_); intro b6 hg w7 hbox hb; have a4 := mk_ (hbox); have b0 := gb_ hg HB; replace HB := bp_ HB hb; have b7 := b0; clear hb hbox hg) | ((with_reducible refine gd_ 3 rfl ?_); refine box_event ?hg (N := 3) ?hd (cs := #[.float .f64 b_a1_0, .float .f64 b_a1_1]) (t := 39) ?hr ?_; (case hd => rfl); (case hg => rfl); (case hr => exact hr_); intro b8 hg w8 hbox hb; have a6 := mk_ (hbox); have b1 := gb_ hg HB; replace HB := bp_ HB hb; have b9 := b1; have a5 := nb_ hg a4; replace a4 := bl_ a4 hb; have a7 := ns_ a5; clear hb hbox hg; have j3 := a5.out; have j4 := a7.out; have c1 := bc0_ a4; have c2 := bc1_ a4; have c3 := bf_ a4 0; have c9 := bf_ a4 1; have d0 := bc0_ a6; have d1 := bc1_ a6; have d2 := bf_ a6 0; have d3 := bf_ a6 1) | ((with_reducible refine gc_ 64 rfl ?_); refine gl_ (some 9) rfl Try.func64 #[.float .f64 b_a0_0, .float .f64 b_a1_0] ?_; (with_reducible refine (laws_sameFloat.calls k b_a0_0 a0_0 b_a1_0 a1_0 true _ ?a8 ?a9 A3.out).mono ?_); (case a8 => exact hF_a0_0); (case a9 => exact hF_a1_0); rintro e w' ⟨rfl, ⟨nd, rfl⟩⟩; refine ⟨_, rfl, ?_⟩) | ((with_reducible refine gc_ 64 rfl ?_); refine gl_ (some 15) rfl Try.func64 #[.float .f64 b_a0_1, .float .f64 b_a1_1] ?_; (with_reducible refine (laws_sameFloat.calls k b_a0_1 a0_1 b_a1_1 a1_1 true _ ?a8 ?a9 A5.out).mono ?_); (case a8 => exact hF_a0_1); (case a9 => exact hF_a1_1); rintro e w' ⟨rfl, ⟨nd, rfl⟩⟩; refine ⟨_, rfl, ?_⟩))
   go_ret
   exact ⟨re_, hw_ HB⟩
  ·replace c6 := Bool.eq_false_iff.mpr c6; subst c6; rw [if_neg (show ¬ (false = true) by decide)] at H; obtain rfl := Option.some.inj H
   go_enter Try.func22, Try.ntmps22
   go_wp2_with (first | ((with_reducible refine gd_ 2 rfl ?_); refine box_event ?hg (N := 2) ?hd (cs := #[.float .f64 b_a0_0, .float .f64 b_a0_1]) (t := 39) ?hr ?_; (case hd => rfl); (case hg => rfl); (case hr => exact hr_); intro b6 hg j6 hbox hb; have a4 := mk_ (hbox); have b0 := gb_ hg HB; replace HB := bp_ HB hb; have b7 := b0; clear hb hbox hg) | ((with_reducible refine gd_ 3 rfl ?_); refine box_event ?hg (N := 3) ?hd (cs := #[.float .f64 b_a1_0, .float .f64 b_a1_1]) (t := 39) ?hr ?_; (case hd => rfl); (case hg => rfl); (case hr => exact hr_); intro b8 hg j7 hbox hb; have a6 := mk_ (hbox); have b1 := gb_ hg HB; replace HB := bp_ HB hb; have b9 := b1; have a5 := nb_ hg a4; replace a4 := bl_ a4 hb; have a7 := ns_ a5; clear hb hbox hg; have h6 := a5.out; have h7 := a7.out; have d4 := bc0_ a4; have d5 := bc1_ a4; have d6 := bf_ a4 0; have d7 := bf_ a4 1; have d8 := bc0_ a6; have d9 := bc1_ a6; have g0 := bf_ a6 0; have g1 := bf_ a6 1) | ((with_reducible refine gc_ 64 rfl ?_); refine gl_ (some 9) rfl Try.func64 #[.float .f64 b_a0_0, .float .f64 b_a1_0] ?_; (with_reducible refine (laws_sameFloat.calls k b_a0_0 a0_0 b_a1_0 a1_0 true _ ?a8 ?a9 A3.out).mono ?_); (case a8 => exact hF_a0_0); (case a9 => exact hF_a1_0); rintro e w' ⟨rfl, ⟨nd, rfl⟩⟩; refine ⟨_, rfl, ?_⟩) | ((with_reducible refine gc_ 64 rfl ?_); refine gl_ (some 15) rfl Try.func64 #[.float .f64 b_a0_1, .float .f64 b_a1_1] ?_; (with_reducible refine (laws_sameFloat.calls k b_a0_1 a0_1 b_a1_1 a1_1 false _ ?a8 ?a9 A5.out).mono ?_); (case a8 => exact hF_a0_1); (case a9 => exact hF_a1_1); rintro e w' ⟨rfl, ⟨nd, rfl⟩⟩; refine ⟨_, rfl, ?_⟩))
   go_ret
   exact ⟨re_, hw_ HB⟩
 ·replace c4 := Bool.eq_false_iff.mpr c4; subst c4; rw [if_neg (show ¬ (false = true) by decide)] at H; obtain rfl := Option.some.inj H
  go_enter Try.func22, Try.ntmps22
  go_wp2_with (first | ((with_reducible refine gd_ 2 rfl ?_); refine box_event ?hg (N := 2) ?hd (cs := #[.float .f64 b_a0_0, .float .f64 b_a0_1]) (t := 39) ?hr ?_; (case hd => rfl); (case hg => rfl); (case hr => exact hr_); intro b6 hg j8 hbox hb; have a4 := mk_ (hbox); have b0 := gb_ hg HB; replace HB := bp_ HB hb; have b7 := b0; clear hb hbox hg) | ((with_reducible refine gd_ 3 rfl ?_); refine box_event ?hg (N := 3) ?hd (cs := #[.float .f64 b_a1_0, .float .f64 b_a1_1]) (t := 39) ?hr ?_; (case hd => rfl); (case hg => rfl); (case hr => exact hr_); intro b8 hg j9 hbox hb; have a6 := mk_ (hbox); have b1 := gb_ hg HB; replace HB := bp_ HB hb; have b9 := b1; have a5 := nb_ hg a4; replace a4 := bl_ a4 hb; have a7 := ns_ a5; clear hb hbox hg; have h8 := a5.out; have h9 := a7.out; have g2 := bc0_ a4; have g3 := bc1_ a4; have g4 := bf_ a4 0; have g5 := bf_ a4 1; have g6 := bc0_ a6; have g7 := bc1_ a6; have g8 := bf_ a6 0; have g9 := bf_ a6 1) | ((with_reducible refine gc_ 64 rfl ?_); refine gl_ (some 9) rfl Try.func64 #[.float .f64 b_a0_0, .float .f64 b_a1_0] ?_; (with_reducible refine (laws_sameFloat.calls k b_a0_0 a0_0 b_a1_0 a1_0 false _ ?a8 ?a9 A3.out).mono ?_); (case a8 => exact hF_a0_0); (case a9 => exact hF_a1_0); rintro e w' ⟨rfl, ⟨nd, rfl⟩⟩; refine ⟨_, rfl, ?_⟩))
  go_ret
  exact ⟨re_, hw_ HB⟩

end Go.Proofs.Ytkginilghcepbaa.QFnExactFlutter
-- squeezed
