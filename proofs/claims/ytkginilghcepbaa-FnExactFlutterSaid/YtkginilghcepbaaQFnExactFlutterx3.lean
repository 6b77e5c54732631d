/- Lean functions that tell what the Go functions used by one law answer, and for each a proof that the Go code comes to just these answers; no condition. Printed by this session's own program over the kit's printer. -/
import Derived.Test.YtkginilghcepbaaWSq
import Derived.Test.YtkginilghcepbaaQFnExactFlutterx0
import Derived.Test.YtkginilghcepbaaQFnExactFlutterx1
import Derived.Test.YtkginilghcepbaaQFnExactFlutterx2
namespace Go.Proofs.Ytkginilghcepbaa.QFnExactFlutter
open Go.RowKit Go.Proofs.YtkginilghcepbaaW.PrintWords Go.Proofs.YtkginilghcepbaaW.PrintLast Go.Proofs.YtkginilghcepbaaW.PrintMore
attribute [local go_sem] max2_int min2_int max_two min_two max_three min_three max_four min_four   -- for this text's walks alone
attribute [local go_sem high] go_eql go_neq go_lss go_leq go_gtr go_geq go_store   -- for this text's walks alone
set_option linter.unusedVariables false
set_option linter.unusedSimpArgs false

/-! ### laws_FnExactFlutter: function 4 -/
def laws_FnExactFlutter.j0 : Nat → Bool → Option (Bool)
 | 0, _ => none
 | k + 1, x46 => if x46 = true then (some false) else (some true)
def laws_FnExactFlutter.f (k : Nat) (a0_0 : Fl) (a0_1 : Fl) (a1_0 : Fl) (a1_1 : Fl) (a2_0 : Fl) (a2_1 : Fl) (a3_0 : Fl) (a3_1 : Fl) : Option (Bool) := (laws_toCx.f a0_0 a0_1).bind fun N2 => ((laws_toCx.f a1_0 a1_1).bind fun N3 => ((laws_toCx.f a2_0 a2_1).bind fun N4 => ((laws_toCx.f a3_0 a3_1).bind fun N5 => ((spec_Flutter.f N2.1 N2.2 N3.1 N3.2 N4.1 N4.2 N5.1 N5.2).bind fun J3 => ((laws_toCx.f a0_0 a0_1).bind fun N6 => ((laws_toCx.f a1_0 a1_1).bind fun N7 => ((laws_toCx.f a2_0 a2_1).bind fun N8 => ((laws_toCx.f a3_0 a3_1).bind fun N9 => ((impl_Flutter.f N6.1 N6.2 N7.1 N7.2 N8.1 N8.2 N9.1 N9.2).bind fun J4 => ((laws_eqCx.f k J4.1 J4.2.1 J3.1 J3.2.1).bind fun O9 => (if O9 = true then ((laws_eqCx.f k J4.2.2.1 J4.2.2.2 J3.2.2.1 J3.2.2.2).bind fun O1 => (laws_FnExactFlutter.j0 k (!O1))) else (laws_FnExactFlutter.j0 k true))))))))))))
theorem laws_FnExactFlutter.mono_l : ∀ k, (∀ y0, LeO (laws_FnExactFlutter.j0 k y0) (laws_FnExactFlutter.j0 (k + 1) y0))
 | 0 => fun _ r h => by simp [laws_FnExactFlutter.j0] at h
 | k + 1 => by
  have X0 := laws_FnExactFlutter.mono_l k
  ·intro y0
   unfold laws_FnExactFlutter.j0
   repeat' first
   | (with_reducible exact X0 _)
   | (with_reducible exact laws_eqCx.mono _ _ _ _ _)
   | (with_reducible exact LeO.refl _)
   | (with_reducible exact LeO.none _)
   | (with_reducible refine LeO.ite ?_ ?_)
   | (with_reducible refine LeO.bind ?_ (fun _ => ?_))
   | exact X0 _
   | exact laws_eqCx.mono _ _ _ _ _
   | exact LeO.none _
   | refine LeO.ite ?_ ?_
   | refine LeO.bind ?_ (fun _ => ?_)
theorem laws_FnExactFlutter.mono : ∀ a0 a1 a2 a3 a4 a5 a6 a7 k, LeO (laws_FnExactFlutter.f k a0 a1 a2 a3 a4 a5 a6 a7) (laws_FnExactFlutter.f (k + 1) a0 a1 a2 a3 a4 a5 a6 a7) := by
 intro a0 a1 a2 a3 a4 a5 a6 a7 k
 have X0 := laws_FnExactFlutter.mono_l k
 unfold laws_FnExactFlutter.f
 repeat' first
   | (with_reducible exact X0 _)
   | (with_reducible exact laws_eqCx.mono _ _ _ _ _)
   | (with_reducible exact LeO.refl _)
   | (with_reducible exact LeO.none _)
   | (with_reducible refine LeO.ite ?_ ?_)
   | (with_reducible refine LeO.bind ?_ (fun _ => ?_))
   | exact X0 _
   | exact laws_eqCx.mono _ _ _ _ _
   | exact LeO.none _
   | refine LeO.ite ?_ ?_
   | refine LeO.bind ?_ (fun _ => ?_)
def laws_FnExactFlutter.T1 : Bool × List (List Nat × List Nat) := (true, [([], []), ([0], [0]), ([], []), ([2, 1], [2]), ([], []), ([4, 3], [4]), ([], []), ([6, 5], [6]), ([1, 3, 5, 7, 7], [1, 3, 5, 7]), ([8], [8]), ([9], [9]), ([9], [9]), ([], []), ([], []), ([12, 10, 8, 0, 1, 2, 3, 4, 5, 6, 7, 8, 9, 10, 12, 13], [10, 12]), ([13, 11, 14, 0, 1, 2, 3, 4, 5, 6, 7, 8, 9, 10, 11, 12, 13, 14], [11, 13])])
def laws_FnExactFlutter.B1 : List Nat := [0, 1, 0, 7, 0, 31, 0, 127, 255, 511, 1023, 1023, 0, 0, 14335, 32767]
theorem laws_FnExactFlutter.tab1 : rtab .any (opsOf Try.f4 1) = laws_FnExactFlutter.T1 := by kernel_rfl
theorem laws_FnExactFlutter.bits1 : waitsOk laws_FnExactFlutter.T1.2 laws_FnExactFlutter.B1 = true := by kernel_rfl
def laws_FnExactFlutter.T2 : Bool × List (List Nat × List Nat) := (true, [([], []), ([0], [0]), ([], []), ([2, 1], [2]), ([], []), ([4, 3], [4]), ([], []), ([6, 5], [6]), ([1, 3, 5, 7, 7], [1, 3, 5, 7]), ([8], [8]), ([9], [9]), ([9], [9]), ([], []), ([], []), ([12, 10, 8, 0, 1, 2, 3, 4, 5, 6, 7, 8, 9, 10, 12, 13], [10, 12]), ([13, 11, 14, 0, 1, 2, 3, 4, 5, 6, 7, 8, 9, 10, 11, 12, 13, 14], [11, 13])])
def laws_FnExactFlutter.B2 : List Nat := [0, 1, 0, 7, 0, 31, 0, 127, 255, 511, 1023, 1023, 0, 0, 14335, 32767]
theorem laws_FnExactFlutter.tab2 : rtab .any (opsOf Try.f4 2) = laws_FnExactFlutter.T2 := by kernel_rfl
theorem laws_FnExactFlutter.bits2 : waitsOk laws_FnExactFlutter.T2.2 laws_FnExactFlutter.B2 = true := by kernel_rfl
set_option maxHeartbeats 8000000 in
set_option maxRecDepth 100000 in
theorem laws_FnExactFlutter.calls (k : Nat) (b_a0_0 : Nat) (a0_0 : Fl) (b_a0_1 : Nat) (a0_1 : Fl) (b_a1_0 : Nat) (a1_0 : Fl) (b_a1_1 : Nat) (a1_1 : Fl) (b_a2_0 : Nat) (a2_0 : Fl) (b_a2_1 : Nat) (a2_1 : Fl) (b_a3_0 : Nat) (a3_0 : Fl) (b_a3_1 : Nat) (a3_1 : Fl) (r : Bool) (w : World) (hF_a0_0 : cn .f64 b_a0_0 = a0_0) (hF_a0_1 : cn .f64 b_a0_1 = a0_1) (hF_a1_0 : cn .f64 b_a1_0 = a1_0) (hF_a1_1 : cn .f64 b_a1_1 = a1_1) (hF_a2_0 : cn .f64 b_a2_0 = a2_0) (hF_a2_1 : cn .f64 b_a2_1 = a2_1) (hF_a3_0 : cn .f64 b_a3_0 = a3_0) (hF_a3_1 : cn .f64 b_a3_1 = a3_1) (h : laws_FnExactFlutter.f k a0_0 a0_1 a1_0 a1_1 a2_0 a2_1 a3_0 a3_1 = some r) :
  Calls Try.prog 4 #[.agg #[.float .f64 b_a0_0, .float .f64 b_a0_1], .agg #[.float .f64 b_a1_0, .float .f64 b_a1_1], .agg #[.float .f64 b_a2_0, .float .f64 b_a2_1], .agg #[.float .f64 b_a3_0, .float .f64 b_a3_1]] w fun e w' => e = .returned (.bool r) ∧ Below w.heap.size w w' := by
 have an6 := Try.underlying38
 have an7 := Try.underlying39
 have HB := mk_ (Below.refl w.heap.size w)
 have H : ((laws_toCx.f a0_0 a0_1).bind fun N2 => ((laws_toCx.f a1_0 a1_1).bind fun N3 => ((laws_toCx.f a2_0 a2_1).bind fun N4 => ((laws_toCx.f a3_0 a3_1).bind fun N5 => ((spec_Flutter.f N2.1 N2.2 N3.1 N3.2 N4.1 N4.2 N5.1 N5.2).bind fun J3 => ((laws_toCx.f a0_0 a0_1).bind fun N6 => ((laws_toCx.f a1_0 a1_1).bind fun N7 => ((laws_toCx.f a2_0 a2_1).bind fun N8 => ((laws_toCx.f a3_0 a3_1).bind fun N9 => ((impl_Flutter.f N6.1 N6.2 N7.1 N7.2 N8.1 N8.2 N9.1 N9.2).bind fun J4 => ((laws_eqCx.f k J4.1 J4.2.1 J3.1 J3.2.1).bind fun O9 => (if O9 = true then ((laws_eqCx.f k J4.2.2.1 J4.2.2.2 J3.2.2.1 J3.2.2.2).bind fun O1 => (laws_FnExactFlutter.j0 k (!O1))) else (laws_FnExactFlutter.j0 k true))))))))))))) = some r := h
 clear h; replace H := Option.bind_eq_some_iff.mp H; obtain ⟨⟨R1, R2⟩, A50, H⟩ := H; (try dsimp only at H); have A5 := mk_ A50; clear A50; replace H := Option.bind_eq_some_iff.mp H; obtain ⟨⟨R3, R4⟩, A60, H⟩ := H; (try dsimp only at H); have A6 := mk_ A60; clear A60; replace H := Option.bind_eq_some_iff.mp H; obtain ⟨⟨R5, R6⟩, A70, H⟩ := H; (try dsimp only at H); have A7 := mk_ A70; clear A70; replace H := Option.bind_eq_some_iff.mp H; obtain ⟨⟨R7, R8⟩, A80, H⟩ := H; (try dsimp only at H); have A8 := mk_ A80; clear A80; replace H := Option.bind_eq_some_iff.mp H; obtain ⟨⟨Q7, Q8, R9, V0⟩, A90, H⟩ := H; (try dsimp only at H); have A9 := mk_ A90; clear A90; replace H := Option.bind_eq_some_iff.mp H; obtain ⟨⟨V1, V2⟩, X1, H⟩ := H; (try dsimp only at H); have A10 := mk_ X1; clear X1; replace H := Option.bind_eq_some_iff.mp H; obtain ⟨⟨V3, V4⟩, X2, H⟩ := H; (try dsimp only at H); have A11 := mk_ X2; clear X2; replace H := Option.bind_eq_some_iff.mp H; obtain ⟨⟨V5, V6⟩, X3, H⟩ := H; (try dsimp only at H); have A12 := mk_ X3; clear X3; replace H := Option.bind_eq_some_iff.mp H; obtain ⟨⟨V7, V8⟩, X4, H⟩ := H; (try dsimp only at H); have A13 := mk_ X4; clear X4; replace H := Option.bind_eq_some_iff.mp H; obtain ⟨⟨Q9, R0, V9, W0⟩, X5, H⟩ := H; (try dsimp only at H); have A14 := mk_ X5; clear X5; have W1 := mk_ H; clear H
 go_enter Try.func4, Try.ntmps4
 try go_wp2_with (first | ((with_reducible refine gd_ 4 rfl ?_); refine box_event ?hg (N := 4) ?hd (cs := #[.float .f64 b_a0_0, .float .f64 b_a0_1]) (t := 38) ?hr ?_; (case hd => rfl); (case hg => rfl); (case hr => exact hr_); intro G7 hg w16 hbox hb; have b3 := mk_ (hbox); have X6 := gb_ hg HB; replace HB := bp_ HB hb; have ak2 := X6; clear hb hbox hg) | ((with_reducible refine gd_ 5 rfl ?_); refine box_event ?hg (N := 5) ?hd (cs := #[.float .f64 b_a1_0, .float .f64 b_a1_1]) (t := 38) ?hr ?_; (case hd => rfl); (case hg => rfl); (case hr => exact hr_); intro G8 hg w17 hbox hb; have b5 := mk_ (hbox); have X7 := gb_ hg HB; replace HB := bp_ HB hb; have ak3 := X7; have O2 := nb_ hg b3; replace b3 := bl_ b3 hb; have W2 := ns_ O2; clear hb hbox hg) | ((with_reducible refine gd_ 6 rfl ?_); refine box_event ?hg (N := 6) ?hd (cs := #[.float .f64 b_a2_0, .float .f64 b_a2_1]) (t := 38) ?hr ?_; (case hd => rfl); (case hg => rfl); (case hr => exact hr_); intro G9 hg w18 hbox hb; have b6 := mk_ (hbox); have X8 := gb_ hg HB; replace HB := bp_ HB hb; have ak4 := X8; have O3 := nb_ hg b3; replace b3 := bl_ b3 hb; have W3 := ns_ O3; have O4 := nb_ hg b5; replace b5 := bl_ b5 hb; have W4 := ns_ O4; clear hb hbox hg) | ((with_reducible refine gd_ 7 rfl ?_); refine box_event ?hg (N := 7) ?hd (cs := #[.float .f64 b_a3_0, .float .f64 b_a3_1]) (t := 38) ?hr ?_; (case hd => rfl); (case hg => rfl); (case hr => exact hr_); intro H0 hg w19 hbox hb; have b7 := mk_ (hbox); have X9 := gb_ hg HB; replace HB := bp_ HB hb; have ak5 := X9; have O5 := nb_ hg b3; replace b3 := bl_ b3 hb; have W5 := ns_ O5; have O6 := nb_ hg b5; replace b5 := bl_ b5 hb; have W6 := ns_ O6; have O7 := nb_ hg b6; replace b6 := bl_ b6 hb; have W7 := ns_ O7; clear hb hbox hg))
 replace b3 := dB_ b3; replace b5 := dB_ b5; replace b6 := dB_ b6; replace b7 := dB_ b7; replace HB := dH_ HB
 refine start_ (n := 16) (S := fun w' => True) (ds := []) (bs_ 16 0) (by kernel_rfl) rfl rfl trivial (fun hHeld => ?_); refine with_tabW laws_FnExactFlutter.tab1 laws_FnExactFlutter.bits1 (fun HT_ HW_ => ?_)
 generalize w19.drew = w20 at b3 b5 b6 b7 HB hHeld ⊢
 refine inv_at [0, 1, 2, 3, 4, 5, 6, 7, 8, 9, 10, 11, 12, 13, 14, 15] (fun a0_ b a w' => ∃ (q3 : Nat) (q4 : Nat) (q5 : Nat) (q6 : Nat) (q7 : Nat) (q8 : Nat) (q9 : Nat) (s0 : Nat) (m3 : Nat) (m4 : Nat) (n3 : Nat) (o2 : Nat) (j5 : Nat) (j6 : Nat) (D0 : Value) (D1 : Value) (D2 : Value) (D3 : Value) (D4 : Value) (A1 : Value) (t1 : Value) (t2 : Value) (t3 : Value) (t4 : Value), a = putSel a0_ b [(0, 14, .agg #[.float .f64 b_a0_0, .float .f64 b_a0_1]), (1, 15, D0), (2, 16, .agg #[.float .f64 b_a1_0, .float .f64 b_a1_1]), (3, 17, D1), (4, 18, .agg #[.float .f64 b_a2_0, .float .f64 b_a2_1]), (5, 19, D2), (6, 20, .agg #[.float .f64 b_a3_0, .float .f64 b_a3_1]), (7, 21, D3), (8, 22, D4), (9, 13, A1), (10, 23, t1), (11, 24, t2), (12, 9, t3), (13, 10, t4)] ∧ (w'.heap[G7]? = some (.cells #[.float .f64 b_a0_0, .float .f64 b_a0_1] 38 (0, 0))) ∧ (w'.heap[G8]? = some (.cells #[.float .f64 b_a1_0, .float .f64 b_a1_1] 38 (0, 0))) ∧ (w'.heap[G9]? = some (.cells #[.float .f64 b_a2_0, .float .f64 b_a2_1] 38 (0, 0))) ∧ (w'.heap[H0]? = some (.cells #[.float .f64 b_a3_0, .float .f64 b_a3_1] 38 (0, 0))) ∧ (Below w.heap.size w w') ∧ (b 12 = true → b 13 = true → j6 ≠ j5) ∧ (b 12 = true → b 13 = true → j5 ≠ j6) ∧ (b 1 = true → cn .f64 q3 = R1) ∧ (b 1 = true → cn .f64 q4 = R2) ∧ (b 3 = true → cn .f64 q5 = R3) ∧ (b 3 = true → cn .f64 q6 = R4) ∧ (b 5 = true → cn .f64 q7 = R5) ∧ (b 5 = true → cn .f64 q8 = R6) ∧ (b 7 = true → cn .f64 q9 = R7) ∧ (b 7 = true → cn .f64 s0 = R8) ∧ (b 8 = true → cn .f64 m3 = Q7) ∧ (b 8 = true → cn .f64 m4 = Q8) ∧ (b 8 = true → cn .f64 n3 = R9) ∧ (b 8 = true → cn .f64 o2 = V0) ∧ (b 12 = true → b 14 = false → w'.heap[j5]? = some (.cells #[.float .f64 0, .float .f64 0] 39 (0, 0))) ∧ (b 12 = true → w.heap.size ≤ j5) ∧ (b 12 = true → w.heap.size ≤ j5) ∧ (b 12 = true → G7 ≠ j5) ∧ (b 12 = true → j5 ≠ G7) ∧ (b 12 = true → G8 ≠ j5) ∧ (b 12 = true → j5 ≠ G8) ∧ (b 12 = true → G9 ≠ j5) ∧ (b 12 = true → j5 ≠ G9) ∧ (b 12 = true → H0 ≠ j5) ∧ (b 12 = true → j5 ≠ H0) ∧ (b 13 = true → b 15 = false → w'.heap[j6]? = some (.cells #[.float .f64 0, .float .f64 0] 39 (0, 0))) ∧ (b 13 = true → w.heap.size ≤ j6) ∧ (b 13 = true → w.heap.size ≤ j6) ∧ (b 13 = true → G7 ≠ j6) ∧ (b 13 = true → j6 ≠ G7) ∧ (b 13 = true → G8 ≠ j6) ∧ (b 13 = true → j6 ≠ G8) ∧ (b 13 = true → G9 ≠ j6) ∧ (b 13 = true → j6 ≠ G9) ∧ (b 13 = true → H0 ≠ j6) ∧ (b 13 = true → j6 ≠ H0) ∧ (b 14 = true → w'.heap[j5]? = some (.cells #[.float .f64 m3, .float .f64 m4] 39 (0, 0))) ∧ (b 15 = true → w'.heap[j6]? = some (.cells #[.float .f64 n3, .float .f64 o2] 39 (0, 0))) ∧ (b 1 = true → (D0 : Value) = .agg #[.float .f64 q3, .float .f64 q4]) ∧ (b 3 = true → (D1 : Value) = .agg #[.float .f64 q5, .float .f64 q6]) ∧ (b 5 = true → (D2 : Value) = .agg #[.float .f64 q7, .float .f64 q8]) ∧ (b 7 = true → (D3 : Value) = .agg #[.float .f64 q9, .float .f64 s0]) ∧ (b 8 = true → (D4 : Value) = .tuple #[.agg #[.float .f64 m3, .float .f64 m4], .agg #[.float .f64 n3, .float .f64 o2]]) ∧ (b 9 = true → (A1 : Value) = .tuple #[.agg #[.float .f64 m3, .float .f64 m4], .agg #[.float .f64 n3, .float .f64 o2]]) ∧ (b 10 = true → (t1 : Value) = .agg #[.float .f64 m3, .float .f64 m4]) ∧ (b 11 = true → (t2 : Value) = .agg #[.float .f64 n3, .float .f64 o2]) ∧ (b 12 = true → (t3 : Value) = .pointer (some ⟨j5, 0, none⟩)) ∧ (b 13 = true → (t4 : Value) = .pointer (some ⟨j6, 0, none⟩))) HT_.out HW_.out (by kernel_rfl) (by kernel_rfl) ?_ ?_ ?_
 ·exact ⟨0, 0, 0, 0, 0, 0, 0, 0, 0, 0, 0, 0, 0, 0, .bool false, .bool false, .bool false, .bool false, .bool false, .bool false, .bool false, .bool false, .bool false, .bool false, by simp only [putSel, Bool.false_eq_true, if_false], b3.out, b5.out, b6.out, b7.out, HB.out, fun h_ => absurd h_ (by decide), fun h_ => absurd h_ (by decide), fun h_ => absurd h_ (by decide), fun h_ => absurd h_ (by decide), fun h_ => absurd h_ (by decide), fun h_ => absurd h_ (by decide), fun h_ => absurd h_ (by decide), fun h_ => absurd h_ (by decide), fun h_ => absurd h_ (by decide), fun h_ => absurd h_ (by decide), fun h_ => absurd h_ (by decide), fun h_ => absurd h_ (by decide), fun h_ => absurd h_ (by decide), fun h_ => absurd h_ (by decide), fun h_ => absurd h_ (by decide), fun h_ => absurd h_ (by decide), fun h_ => absurd h_ (by decide), fun h_ => absurd h_ (by decide), fun h_ => absurd h_ (by decide), fun h_ => absurd h_ (by decide), fun h_ => absurd h_ (by decide), fun h_ => absurd h_ (by decide), fun h_ => absurd h_ (by decide), fun h_ => absurd h_ (by decide), fun h_ => absurd h_ (by decide), fun h_ => absurd h_ (by decide), fun h_ => absurd h_ (by decide), fun h_ => absurd h_ (by decide), fun h_ => absurd h_ (by decide), fun h_ => absurd h_ (by decide), fun h_ => absurd h_ (by decide), fun h_ => absurd h_ (by decide), fun h_ => absurd h_ (by decide), fun h_ => absurd h_ (by decide), fun h_ => absurd h_ (by decide), fun h_ => absurd h_ (by decide), fun h_ => absurd h_ (by decide), fun h_ => absurd h_ (by decide), fun h_ => absurd h_ (by decide), fun h_ => absurd h_ (by decide), fun h_ => absurd h_ (by decide), fun h_ => absurd h_ (by decide), fun h_ => absurd h_ (by decide), fun h_ => absurd h_ (by decide), fun h_ => absurd h_ (by decide), fun h_ => absurd h_ (by decide), fun h_ => absurd h_ (by decide), fun h_ => absurd h_ (by decide)⟩
 ·skip
  clear b3 b5 b6 b7 HB
  refine steps_cons ?_ ?_
  ·rintro b a w' h_ hb_ hon hoff; (iterate 24 (refine Exists.elim h_ ?_; clear h_; intro _ h_)); (iterate 53 (refine And.elim ?_ h_; clear h_; intro _ h_)); rename_i q3 q4 q5 q6 q7 q8 q9 s0 m3 m4 n3 o2 j5 j6 D0 D1 D2 D3 D4 A1 t1 t2 t3 t4 ha a8 a9 b0 b1 Q_HB h8 h9 l0 l1 l5 l6 l9 m0 m6 m7 n4 n5 n6 n7 b4 p3 p4 b8 b9 c0 c1 c2 c3 c4 c5 b2 p5 p6 c6 c7 c8 c9 d0 d1 d2 d3 n1 o8 o4 p0 p2 q2 s9 t0 o6 o7 j3; have j4 := h_; clear h_
   refine ⟨_, rfl, fun K hK => ?_⟩
   have e4 : a.tmps[4]? = some (.pointer (some ⟨G7, 0, none⟩)) := by rw [ha]; exact (putSel_off rfl).trans rfl
   replace ha := mk_ ha
   have b3 := mk_ a8; have b5 := mk_ a9; have b6 := mk_ b0; have b7 := mk_ b1; have HB := mk_ Q_HB
   have hc0_ : w'.cell? ⟨G7, 0, none⟩ = some (.float .f64 b_a0_0) := bc0_ b3
   have hc1_ : w'.cell? ⟨G7, 1, none⟩ = some (.float .f64 b_a0_1) := bc1_ b3
   refine value_ (w1 := w') (v := .agg #[.float .f64 b_a0_0, .float .f64 b_a0_1]) (by rfl) rfl ?_ ?_
   ·go_simp
    (try simp only [i64_w])
    try rfl
   refine hK.out _ _ ⟨q3, q4, q5, q6, q7, q8, q9, s0, m3, m4, n3, o2, j5, j6, D0, D1, D2, D3, D4, A1, t1, t2, t3, t4, (by rw [ha.out]; exact putSel_upk 0 hb_ rfl rfl rfl), a8, a9, b0, b1, Q_HB, h8, h9, of_ (hoff 1 (by kernel_rfl)), of_ (hoff 1 (by kernel_rfl)), of_ (hoff 3 (by kernel_rfl)), of_ (hoff 3 (by kernel_rfl)), of_ (hoff 5 (by kernel_rfl)), of_ (hoff 5 (by kernel_rfl)), of_ (hoff 7 (by kernel_rfl)), of_ (hoff 7 (by kernel_rfl)), of_ (hoff 8 (by kernel_rfl)), of_ (hoff 8 (by kernel_rfl)), of_ (hoff 8 (by kernel_rfl)), of_ (hoff 8 (by kernel_rfl)), b4, p3, p4, b8, b9, c0, c1, c2, c3, c4, c5, b2, p5, p6, c6, c7, c8, c9, d0, d1, d2, d3, of_ (hoff 14 (by kernel_rfl)), of_ (hoff 15 (by kernel_rfl)), of_ (hoff 1 (by kernel_rfl)), of_ (hoff 3 (by kernel_rfl)), of_ (hoff 5 (by kernel_rfl)), of_ (hoff 7 (by kernel_rfl)), of_ (hoff 8 (by kernel_rfl)), of_ (hoff 9 (by kernel_rfl)), of_ (hoff 10 (by kernel_rfl)), of_ (hoff 11 (by kernel_rfl)), j3, j4⟩
  refine steps_cons ?_ ?_
  ·rintro b a w' h_ hb_ hon hoff; (iterate 24 (refine Exists.elim h_ ?_; clear h_; intro _ h_)); (iterate 53 (refine And.elim ?_ h_; clear h_; intro _ h_)); rename_i q3 q4 q5 q6 q7 q8 q9 s0 m3 m4 n3 o2 j5 j6 D0 D1 D2 D3 D4 A1 t1 t2 t3 t4 ha a8 a9 b0 b1 Q_HB h8 h9 l0 l1 l5 l6 l9 m0 m6 m7 n4 n5 n6 n7 b4 p3 p4 b8 b9 c0 c1 c2 c3 c4 c5 b2 p5 p6 c6 c7 c8 c9 d0 d1 d2 d3 n1 o8 o4 p0 p2 q2 s9 t0 o6 o7 j3; have j4 := h_; clear h_
   refine ⟨_, rfl, fun K hK => ?_⟩
   have e14 : a.tmps[14]? = some (.agg #[.float .f64 b_a0_0, .float .f64 b_a0_1]) := by rw [ha]; exact putSel_on (e := (0, 14, .agg #[.float .f64 b_a0_0, .float .f64 b_a0_1])) 0 rfl rfl (hon 0 (by kernel_rfl)) rfl
   replace ha := mk_ ha
   have b3 := mk_ a8; have b5 := mk_ a9; have b6 := mk_ b0; have b7 := mk_ b1; have HB := mk_ Q_HB
   refine goes_ Try.func20 (by kernel_rfl) rfl #[.agg #[.float .f64 b_a0_0, .float .f64 b_a0_1]] (by rfl) rfl rfl (by first | (simp only [List.map_toArray, List.map_cons, List.map_nil, Act.eval, Array.getD_eq_getD_getElem?, Option.getD_some, e14]; done) | (simp only [List.map_toArray, List.map_cons, List.map_nil, Act.eval, Array.getD_eq_getD_getElem?, Option.getD_some, e14]; rfl)) ?_
   with_reducible refine (laws_toCx.calls b_a0_0 a0_0 b_a0_1 a0_1 R1 R2 _ ?A2 ?A3 A5.out).mono ?_
   (case A2 => exact hF_a0_0)
   (case A3 => exact hF_a0_1)
   rintro e W8 ⟨q3, q4, rfl, y7, y8, hb⟩
   refine ⟨_, rfl, ?_⟩
   have H9 := bk_ b3 hb
   have I0 := bk_ b5 hb
   have I1 := bk_ b6 hb
   have I2 := bk_ b7 hb
   have I3 := hk_ HB hb
   have F8 := fun (F9 : b 12 = true) (D5 : b 14 = false) => (show W8.heap[j5]? = some (.cells #[.float .f64 0, .float .f64 0] 39 (0, 0)) from by first | exact (blk_below (g := j5) (o := .cells #[.float .f64 0, .float .f64 0] 39 (0, 0)) (by (with_reducible repeat (first | refine blk_drewN ?_ _ | refine blk_drew ?_ | refine blk_alloc ?_ _)); exact (b4 F9 D5)) hb))
   have G0 := fun (F9 : b 13 = true) (D5 : b 15 = false) => (show W8.heap[j6]? = some (.cells #[.float .f64 0, .float .f64 0] 39 (0, 0)) from by first | exact (blk_below (g := j6) (o := .cells #[.float .f64 0, .float .f64 0] 39 (0, 0)) (by (with_reducible repeat (first | refine blk_drewN ?_ _ | refine blk_drew ?_ | refine blk_alloc ?_ _)); exact (b2 F9 D5)) hb))
   clear b3; clear b5; clear b6; clear b7; clear HB
   have b3 := H9
   have b5 := I0
   have b6 := I1
   have b7 := I2
   have HB := I3
   clear H9 I0 I1 I2 I3; (try clear hb); (try clear O8); (try clear hk); (try clear hi)
   refine hK.out _ _ ⟨q3, q4, q5, q6, q7, q8, q9, s0, m3, m4, n3, o2, j5, j6, (.agg #[.float .f64 q3, .float .f64 q4]), D1, D2, D3, D4, A1, t1, t2, t3, t4, (by rw [ha.out]; exact putSel_upk 1 hb_ rfl rfl rfl), (bx_ b3), (bx_ b5), (bx_ b6), (bx_ b7), (hw_ HB), h8, h9, fun _ => y7, fun _ => y8, of_ (hoff 3 (by kernel_rfl)), of_ (hoff 3 (by kernel_rfl)), of_ (hoff 5 (by kernel_rfl)), of_ (hoff 5 (by kernel_rfl)), of_ (hoff 7 (by kernel_rfl)), of_ (hoff 7 (by kernel_rfl)), of_ (hoff 8 (by kernel_rfl)), of_ (hoff 8 (by kernel_rfl)), of_ (hoff 8 (by kernel_rfl)), of_ (hoff 8 (by kernel_rfl)), F8, p3, p4, b8, b9, c0, c1, c2, c3, c4, c5, G0, p5, p6, c6, c7, c8, c9, d0, d1, d2, d3, of_ (hoff 14 (by kernel_rfl)), of_ (hoff 15 (by kernel_rfl)), fun _ => rfl, of_ (hoff 3 (by kernel_rfl)), of_ (hoff 5 (by kernel_rfl)), of_ (hoff 7 (by kernel_rfl)), of_ (hoff 8 (by kernel_rfl)), of_ (hoff 9 (by kernel_rfl)), of_ (hoff 10 (by kernel_rfl)), of_ (hoff 11 (by kernel_rfl)), j3, j4⟩
  refine steps_cons ?_ ?_
  ·rintro b a w' h_ hb_ hon hoff; (iterate 24 (refine Exists.elim h_ ?_; clear h_; intro _ h_)); (iterate 53 (refine And.elim ?_ h_; clear h_; intro _ h_)); rename_i q3 q4 q5 q6 q7 q8 q9 s0 m3 m4 n3 o2 j5 j6 D0 D1 D2 D3 D4 A1 t1 t2 t3 t4 ha a8 a9 b0 b1 Q_HB h8 h9 l0 l1 l5 l6 l9 m0 m6 m7 n4 n5 n6 n7 b4 p3 p4 b8 b9 c0 c1 c2 c3 c4 c5 b2 p5 p6 c6 c7 c8 c9 d0 d1 d2 d3 n1 o8 o4 p0 p2 q2 s9 t0 o6 o7 j3; have j4 := h_; clear h_
   refine ⟨_, rfl, fun K hK => ?_⟩
   have e5 : a.tmps[5]? = some (.pointer (some ⟨G8, 0, none⟩)) := by rw [ha]; exact (putSel_off rfl).trans rfl
   replace ha := mk_ ha
   have b3 := mk_ a8; have b5 := mk_ a9; have b6 := mk_ b0; have b7 := mk_ b1; have HB := mk_ Q_HB
   have hc0_ : w'.cell? ⟨G8, 0, none⟩ = some (.float .f64 b_a1_0) := bc0_ b5
   have hc1_ : w'.cell? ⟨G8, 1, none⟩ = some (.float .f64 b_a1_1) := bc1_ b5
   refine value_ (w1 := w') (v := .agg #[.float .f64 b_a1_0, .float .f64 b_a1_1]) (by rfl) rfl ?_ ?_
   ·go_simp
    (try simp only [i64_w])
    try rfl
   refine hK.out _ _ ⟨q3, q4, q5, q6, q7, q8, q9, s0, m3, m4, n3, o2, j5, j6, D0, D1, D2, D3, D4, A1, t1, t2, t3, t4, (by rw [ha.out]; exact putSel_upk 2 hb_ rfl rfl rfl), a8, a9, b0, b1, Q_HB, h8, h9, l0, l1, of_ (hoff 3 (by kernel_rfl)), of_ (hoff 3 (by kernel_rfl)), of_ (hoff 5 (by kernel_rfl)), of_ (hoff 5 (by kernel_rfl)), of_ (hoff 7 (by kernel_rfl)), of_ (hoff 7 (by kernel_rfl)), of_ (hoff 8 (by kernel_rfl)), of_ (hoff 8 (by kernel_rfl)), of_ (hoff 8 (by kernel_rfl)), of_ (hoff 8 (by kernel_rfl)), b4, p3, p4, b8, b9, c0, c1, c2, c3, c4, c5, b2, p5, p6, c6, c7, c8, c9, d0, d1, d2, d3, of_ (hoff 14 (by kernel_rfl)), of_ (hoff 15 (by kernel_rfl)), o4, of_ (hoff 3 (by kernel_rfl)), of_ (hoff 5 (by kernel_rfl)), of_ (hoff 7 (by kernel_rfl)), of_ (hoff 8 (by kernel_rfl)), of_ (hoff 9 (by kernel_rfl)), of_ (hoff 10 (by kernel_rfl)), of_ (hoff 11 (by kernel_rfl)), j3, j4⟩
  refine steps_cons ?_ ?_
  ·rintro b a w' h_ hb_ hon hoff; (iterate 24 (refine Exists.elim h_ ?_; clear h_; intro _ h_)); (iterate 53 (refine And.elim ?_ h_; clear h_; intro _ h_)); rename_i q3 q4 q5 q6 q7 q8 q9 s0 m3 m4 n3 o2 j5 j6 D0 D1 D2 D3 D4 A1 t1 t2 t3 t4 ha a8 a9 b0 b1 Q_HB h8 h9 l0 l1 l5 l6 l9 m0 m6 m7 n4 n5 n6 n7 b4 p3 p4 b8 b9 c0 c1 c2 c3 c4 c5 b2 p5 p6 c6 c7 c8 c9 d0 d1 d2 d3 n1 o8 o4 p0 p2 q2 s9 t0 o6 o7 j3; have j4 := h_; clear h_
   refine ⟨_, rfl, fun K hK => ?_⟩
   have e16 : a.tmps[16]? = some (.agg #[.float .f64 b_a1_0, .float .f64 b_a1_1]) := by rw [ha]; exact putSel_on (e := (2, 16, .agg #[.float .f64 b_a1_0, .float .f64 b_a1_1])) 2 rfl rfl (hon 2 (by kernel_rfl)) rfl
   replace ha := mk_ ha
   have b3 := mk_ a8; have b5 := mk_ a9; have b6 := mk_ b0; have b7 := mk_ b1; have HB := mk_ Q_HB; have HF_t180 := mk_ (l0 (hon 1 (by kernel_rfl))); have HF_t181 := mk_ (l1 (hon 1 (by kernel_rfl))); have y7 := HF_t180.out; have y8 := HF_t181.out
   refine goes_ Try.func20 (by kernel_rfl) rfl #[.agg #[.float .f64 b_a1_0, .float .f64 b_a1_1]] (by rfl) rfl rfl (by first | (simp only [List.map_toArray, List.map_cons, List.map_nil, Act.eval, Array.getD_eq_getD_getElem?, Option.getD_some, e16]; done) | (simp only [List.map_toArray, List.map_cons, List.map_nil, Act.eval, Array.getD_eq_getD_getElem?, Option.getD_some, e16]; rfl)) ?_
   with_reducible refine (laws_toCx.calls b_a1_0 a1_0 b_a1_1 a1_1 R3 R4 _ ?A2 ?A3 A6.out).mono ?_
   (case A2 => exact hF_a1_0)
   (case A3 => exact hF_a1_1)
   rintro e w23 ⟨q5, q6, rfl, D7, D8, hb⟩
   refine ⟨_, rfl, ?_⟩
   have H9 := bk_ b3 hb
   have I0 := bk_ b5 hb
   have I1 := bk_ b6 hb
   have I2 := bk_ b7 hb
   have I3 := hk_ HB hb
   have F8 := fun (F9 : b 12 = true) (D5 : b 14 = false) => (show w23.heap[j5]? = some (.cells #[.float .f64 0, .float .f64 0] 39 (0, 0)) from by first | exact (blk_below (g := j5) (o := .cells #[.float .f64 0, .float .f64 0] 39 (0, 0)) (by (with_reducible repeat (first | refine blk_drewN ?_ _ | refine blk_drew ?_ | refine blk_alloc ?_ _)); exact (b4 F9 D5)) hb))
   have G0 := fun (F9 : b 13 = true) (D5 : b 15 = false) => (show w23.heap[j6]? = some (.cells #[.float .f64 0, .float .f64 0] 39 (0, 0)) from by first | exact (blk_below (g := j6) (o := .cells #[.float .f64 0, .float .f64 0] 39 (0, 0)) (by (with_reducible repeat (first | refine blk_drewN ?_ _ | refine blk_drew ?_ | refine blk_alloc ?_ _)); exact (b2 F9 D5)) hb))
   clear b3; clear b5; clear b6; clear b7; clear HB
   have b3 := H9
   have b5 := I0
   have b6 := I1
   have b7 := I2
   have HB := I3
   clear H9 I0 I1 I2 I3; (try clear hb); (try clear O8); (try clear hk); (try clear hi)
   refine hK.out _ _ ⟨q3, q4, q5, q6, q7, q8, q9, s0, m3, m4, n3, o2, j5, j6, D0, (.agg #[.float .f64 q5, .float .f64 q6]), D2, D3, D4, A1, t1, t2, t3, t4, (by rw [ha.out]; exact putSel_upk 3 hb_ rfl rfl rfl), (bx_ b3), (bx_ b5), (bx_ b6), (bx_ b7), (hw_ HB), h8, h9, fun _ => y7, fun _ => y8, fun _ => D7, fun _ => D8, of_ (hoff 5 (by kernel_rfl)), of_ (hoff 5 (by kernel_rfl)), of_ (hoff 7 (by kernel_rfl)), of_ (hoff 7 (by kernel_rfl)), of_ (hoff 8 (by kernel_rfl)), of_ (hoff 8 (by kernel_rfl)), of_ (hoff 8 (by kernel_rfl)), of_ (hoff 8 (by kernel_rfl)), F8, p3, p4, b8, b9, c0, c1, c2, c3, c4, c5, G0, p5, p6, c6, c7, c8, c9, d0, d1, d2, d3, of_ (hoff 14 (by kernel_rfl)), of_ (hoff 15 (by kernel_rfl)), o4, fun _ => rfl, of_ (hoff 5 (by kernel_rfl)), of_ (hoff 7 (by kernel_rfl)), of_ (hoff 8 (by kernel_rfl)), of_ (hoff 9 (by kernel_rfl)), of_ (hoff 10 (by kernel_rfl)), of_ (hoff 11 (by kernel_rfl)), j3, j4⟩
  refine steps_cons ?_ ?_
  ·rintro b a w' h_ hb_ hon hoff; (iterate 24 (refine Exists.elim h_ ?_; clear h_; intro _ h_)); (iterate 53 (refine And.elim ?_ h_; clear h_; intro _ h_)); rename_i q3 q4 q5 q6 q7 q8 q9 s0 m3 m4 n3 o2 j5 j6 D0 D1 D2 D3 D4 A1 t1 t2 t3 t4 ha a8 a9 b0 b1 Q_HB h8 h9 l0 l1 l5 l6 l9 m0 m6 m7 n4 n5 n6 n7 b4 p3 p4 b8 b9 c0 c1 c2 c3 c4 c5 b2 p5 p6 c6 c7 c8 c9 d0 d1 d2 d3 n1 o8 o4 p0 p2 q2 s9 t0 o6 o7 j3; have j4 := h_; clear h_
   refine ⟨_, rfl, fun K hK => ?_⟩
   have e6 : a.tmps[6]? = some (.pointer (some ⟨G9, 0, none⟩)) := by rw [ha]; exact (putSel_off rfl).trans rfl
   replace ha := mk_ ha
   have b3 := mk_ a8; have b5 := mk_ a9; have b6 := mk_ b0; have b7 := mk_ b1; have HB := mk_ Q_HB
   have hc0_ : w'.cell? ⟨G9, 0, none⟩ = some (.float .f64 b_a2_0) := bc0_ b6
   have hc1_ : w'.cell? ⟨G9, 1, none⟩ = some (.float .f64 b_a2_1) := bc1_ b6
   refine value_ (w1 := w') (v := .agg #[.float .f64 b_a2_0, .float .f64 b_a2_1]) (by rfl) rfl ?_ ?_
   ·go_simp
    (try simp only [i64_w])
    try rfl
   refine hK.out _ _ ⟨q3, q4, q5, q6, q7, q8, q9, s0, m3, m4, n3, o2, j5, j6, D0, D1, D2, D3, D4, A1, t1, t2, t3, t4, (by rw [ha.out]; exact putSel_upk 4 hb_ rfl rfl rfl), a8, a9, b0, b1, Q_HB, h8, h9, l0, l1, l5, l6, of_ (hoff 5 (by kernel_rfl)), of_ (hoff 5 (by kernel_rfl)), of_ (hoff 7 (by kernel_rfl)), of_ (hoff 7 (by kernel_rfl)), of_ (hoff 8 (by kernel_rfl)), of_ (hoff 8 (by kernel_rfl)), of_ (hoff 8 (by kernel_rfl)), of_ (hoff 8 (by kernel_rfl)), b4, p3, p4, b8, b9, c0, c1, c2, c3, c4, c5, b2, p5, p6, c6, c7, c8, c9, d0, d1, d2, d3, of_ (hoff 14 (by kernel_rfl)), of_ (hoff 15 (by kernel_rfl)), o4, p0, of_ (hoff 5 (by kernel_rfl)), of_ (hoff 7 (by kernel_rfl)), of_ (hoff 8 (by kernel_rfl)), of_ (hoff 9 (by kernel_rfl)), of_ (hoff 10 (by kernel_rfl)), of_ (hoff 11 (by kernel_rfl)), j3, j4⟩
  refine steps_cons ?_ ?_
  ·rintro b a w' h_ hb_ hon hoff; (iterate 24 (refine Exists.elim h_ ?_; clear h_; intro _ h_)); (iterate 53 (refine And.elim ?_ h_; clear h_; intro _ h_)); rename_i q3 q4 q5 q6 q7 q8 q9 s0 m3 m4 n3 o2 j5 j6 D0 D1 D2 D3 D4 A1 t1 t2 t3 t4 ha a8 a9 b0 b1 Q_HB h8 h9 l0 l1 l5 l6 l9 m0 m6 m7 n4 n5 n6 n7 b4 p3 p4 b8 b9 c0 c1 c2 c3 c4 c5 b2 p5 p6 c6 c7 c8 c9 d0 d1 d2 d3 n1 o8 o4 p0 p2 q2 s9 t0 o6 o7 j3; have j4 := h_; clear h_
   refine ⟨_, rfl, fun K hK => ?_⟩
   have e18 : a.tmps[18]? = some (.agg #[.float .f64 b_a2_0, .float .f64 b_a2_1]) := by rw [ha]; exact putSel_on (e := (4, 18, .agg #[.float .f64 b_a2_0, .float .f64 b_a2_1])) 4 rfl rfl (hon 4 (by kernel_rfl)) rfl
   replace ha := mk_ ha
   have b3 := mk_ a8; have b5 := mk_ a9; have b6 := mk_ b0; have b7 := mk_ b1; have HB := mk_ Q_HB; have HF_t180 := mk_ (l0 (hon 1 (by kernel_rfl))); have HF_t181 := mk_ (l1 (hon 1 (by kernel_rfl))); have HF_t182 := mk_ (l5 (hon 3 (by kernel_rfl))); have HF_t183 := mk_ (l6 (hon 3 (by kernel_rfl))); have y7 := HF_t180.out; have y8 := HF_t181.out; have D7 := HF_t182.out; have D8 := HF_t183.out
   refine goes_ Try.func20 (by kernel_rfl) rfl #[.agg #[.float .f64 b_a2_0, .float .f64 b_a2_1]] (by rfl) rfl rfl (by first | (simp only [List.map_toArray, List.map_cons, List.map_nil, Act.eval, Array.getD_eq_getD_getElem?, Option.getD_some, e18]; done) | (simp only [List.map_toArray, List.map_cons, List.map_nil, Act.eval, Array.getD_eq_getD_getElem?, Option.getD_some, e18]; rfl)) ?_
   with_reducible refine (laws_toCx.calls b_a2_0 a2_0 b_a2_1 a2_1 R5 R6 _ ?A2 ?A3 A7.out).mono ?_
   (case A2 => exact hF_a2_0)
   (case A3 => exact hF_a2_1)
   rintro e w24 ⟨q7, q8, rfl, G1, G2, hb⟩
   refine ⟨_, rfl, ?_⟩
   have H9 := bk_ b3 hb
   have I0 := bk_ b5 hb
   have I1 := bk_ b6 hb
   have I2 := bk_ b7 hb
   have I3 := hk_ HB hb
   have F8 := fun (F9 : b 12 = true) (D5 : b 14 = false) => (show w24.heap[j5]? = some (.cells #[.float .f64 0, .float .f64 0] 39 (0, 0)) from by first | exact (blk_below (g := j5) (o := .cells #[.float .f64 0, .float .f64 0] 39 (0, 0)) (by (with_reducible repeat (first | refine blk_drewN ?_ _ | refine blk_drew ?_ | refine blk_alloc ?_ _)); exact (b4 F9 D5)) hb))
   have G0 := fun (F9 : b 13 = true) (D5 : b 15 = false) => (show w24.heap[j6]? = some (.cells #[.float .f64 0, .float .f64 0] 39 (0, 0)) from by first | exact (blk_below (g := j6) (o := .cells #[.float .f64 0, .float .f64 0] 39 (0, 0)) (by (with_reducible repeat (first | refine blk_drewN ?_ _ | refine blk_drew ?_ | refine blk_alloc ?_ _)); exact (b2 F9 D5)) hb))
   clear b3; clear b5; clear b6; clear b7; clear HB
   have b3 := H9
   have b5 := I0
   have b6 := I1
   have b7 := I2
   have HB := I3
   clear H9 I0 I1 I2 I3; (try clear hb); (try clear O8); (try clear hk); (try clear hi)
   refine hK.out _ _ ⟨q3, q4, q5, q6, q7, q8, q9, s0, m3, m4, n3, o2, j5, j6, D0, D1, (.agg #[.float .f64 q7, .float .f64 q8]), D3, D4, A1, t1, t2, t3, t4, (by rw [ha.out]; exact putSel_upk 5 hb_ rfl rfl rfl), (bx_ b3), (bx_ b5), (bx_ b6), (bx_ b7), (hw_ HB), h8, h9, fun _ => y7, fun _ => y8, fun _ => D7, fun _ => D8, fun _ => G1, fun _ => G2, of_ (hoff 7 (by kernel_rfl)), of_ (hoff 7 (by kernel_rfl)), of_ (hoff 8 (by kernel_rfl)), of_ (hoff 8 (by kernel_rfl)), of_ (hoff 8 (by kernel_rfl)), of_ (hoff 8 (by kernel_rfl)), F8, p3, p4, b8, b9, c0, c1, c2, c3, c4, c5, G0, p5, p6, c6, c7, c8, c9, d0, d1, d2, d3, of_ (hoff 14 (by kernel_rfl)), of_ (hoff 15 (by kernel_rfl)), o4, p0, fun _ => rfl, of_ (hoff 7 (by kernel_rfl)), of_ (hoff 8 (by kernel_rfl)), of_ (hoff 9 (by kernel_rfl)), of_ (hoff 10 (by kernel_rfl)), of_ (hoff 11 (by kernel_rfl)), j3, j4⟩
  refine steps_cons ?_ ?_
  ·rintro b a w' h_ hb_ hon hoff; (iterate 24 (refine Exists.elim h_ ?_; clear h_; intro _ h_)); (iterate 53 (refine And.elim ?_ h_; clear h_; intro _ h_)); rename_i q3 q4 q5 q6 q7 q8 q9 s0 m3 m4 n3 o2 j5 j6 D0 D1 D2 D3 D4 A1 t1 t2 t3 t4 ha a8 a9 b0 b1 Q_HB h8 h9 l0 l1 l5 l6 l9 m0 m6 m7 n4 n5 n6 n7 b4 p3 p4 b8 b9 c0 c1 c2 c3 c4 c5 b2 p5 p6 c6 c7 c8 c9 d0 d1 d2 d3 n1 o8 o4 p0 p2 q2 s9 t0 o6 o7 j3; have j4 := h_; clear h_
   refine ⟨_, rfl, fun K hK => ?_⟩
   have e7 : a.tmps[7]? = some (.pointer (some ⟨H0, 0, none⟩)) := by rw [ha]; exact (putSel_off rfl).trans rfl
   replace ha := mk_ ha
   have b3 := mk_ a8; have b5 := mk_ a9; have b6 := mk_ b0; have b7 := mk_ b1; have HB := mk_ Q_HB
   have hc0_ : w'.cell? ⟨H0, 0, none⟩ = some (.float .f64 b_a3_0) := bc0_ b7
   have hc1_ : w'.cell? ⟨H0, 1, none⟩ = some (.float .f64 b_a3_1) := bc1_ b7
   refine value_ (w1 := w') (v := .agg #[.float .f64 b_a3_0, .float .f64 b_a3_1]) (by rfl) rfl ?_ ?_
   ·go_simp
    (try simp only [i64_w])
    try rfl
   refine hK.out _ _ ⟨q3, q4, q5, q6, q7, q8, q9, s0, m3, m4, n3, o2, j5, j6, D0, D1, D2, D3, D4, A1, t1, t2, t3, t4, (by rw [ha.out]; exact putSel_upk 6 hb_ rfl rfl rfl), a8, a9, b0, b1, Q_HB, h8, h9, l0, l1, l5, l6, l9, m0, of_ (hoff 7 (by kernel_rfl)), of_ (hoff 7 (by kernel_rfl)), of_ (hoff 8 (by kernel_rfl)), of_ (hoff 8 (by kernel_rfl)), of_ (hoff 8 (by kernel_rfl)), of_ (hoff 8 (by kernel_rfl)), b4, p3, p4, b8, b9, c0, c1, c2, c3, c4, c5, b2, p5, p6, c6, c7, c8, c9, d0, d1, d2, d3, of_ (hoff 14 (by kernel_rfl)), of_ (hoff 15 (by kernel_rfl)), o4, p0, p2, of_ (hoff 7 (by kernel_rfl)), of_ (hoff 8 (by kernel_rfl)), of_ (hoff 9 (by kernel_rfl)), of_ (hoff 10 (by kernel_rfl)), of_ (hoff 11 (by kernel_rfl)), j3, j4⟩
  refine steps_cons ?_ ?_
  ·rintro b a w' h_ hb_ hon hoff; (iterate 24 (refine Exists.elim h_ ?_; clear h_; intro _ h_)); (iterate 53 (refine And.elim ?_ h_; clear h_; intro _ h_)); rename_i q3 q4 q5 q6 q7 q8 q9 s0 m3 m4 n3 o2 j5 j6 D0 D1 D2 D3 D4 A1 t1 t2 t3 t4 ha a8 a9 b0 b1 Q_HB h8 h9 l0 l1 l5 l6 l9 m0 m6 m7 n4 n5 n6 n7 b4 p3 p4 b8 b9 c0 c1 c2 c3 c4 c5 b2 p5 p6 c6 c7 c8 c9 d0 d1 d2 d3 n1 o8 o4 p0 p2 q2 s9 t0 o6 o7 j3; have j4 := h_; clear h_
   refine ⟨_, rfl, fun K hK => ?_⟩
   have e20 : a.tmps[20]? = some (.agg #[.float .f64 b_a3_0, .float .f64 b_a3_1]) := by rw [ha]; exact putSel_on (e := (6, 20, .agg #[.float .f64 b_a3_0, .float .f64 b_a3_1])) 6 rfl rfl (hon 6 (by kernel_rfl)) rfl
   replace ha := mk_ ha
   have b3 := mk_ a8; have b5 := mk_ a9; have b6 := mk_ b0; have b7 := mk_ b1; have HB := mk_ Q_HB; have HF_t180 := mk_ (l0 (hon 1 (by kernel_rfl))); have HF_t181 := mk_ (l1 (hon 1 (by kernel_rfl))); have HF_t182 := mk_ (l5 (hon 3 (by kernel_rfl))); have HF_t183 := mk_ (l6 (hon 3 (by kernel_rfl))); have HF_t184 := mk_ (l9 (hon 5 (by kernel_rfl))); have HF_t185 := mk_ (m0 (hon 5 (by kernel_rfl))); have y7 := HF_t180.out; have y8 := HF_t181.out; have D7 := HF_t182.out; have D8 := HF_t183.out; have G1 := HF_t184.out; have G2 := HF_t185.out
   refine goes_ Try.func20 (by kernel_rfl) rfl #[.agg #[.float .f64 b_a3_0, .float .f64 b_a3_1]] (by rfl) rfl rfl (by first | (simp only [List.map_toArray, List.map_cons, List.map_nil, Act.eval, Array.getD_eq_getD_getElem?, Option.getD_some, e20]; done) | (simp only [List.map_toArray, List.map_cons, List.map_nil, Act.eval, Array.getD_eq_getD_getElem?, Option.getD_some, e20]; rfl)) ?_
   with_reducible refine (laws_toCx.calls b_a3_0 a3_0 b_a3_1 a3_1 R7 R8 _ ?A2 ?A3 A8.out).mono ?_
   (case A2 => exact hF_a3_0)
   (case A3 => exact hF_a3_1)
   rintro e w25 ⟨q9, s0, rfl, H1, H2, hb⟩
   refine ⟨_, rfl, ?_⟩
   have H9 := bk_ b3 hb
   have I0 := bk_ b5 hb
   have I1 := bk_ b6 hb
   have I2 := bk_ b7 hb
   have I3 := hk_ HB hb
   have F8 := fun (F9 : b 12 = true) (D5 : b 14 = false) => (show w25.heap[j5]? = some (.cells #[.float .f64 0, .float .f64 0] 39 (0, 0)) from by first | exact (blk_below (g := j5) (o := .cells #[.float .f64 0, .float .f64 0] 39 (0, 0)) (by (with_reducible repeat (first | refine blk_drewN ?_ _ | refine blk_drew ?_ | refine blk_alloc ?_ _)); exact (b4 F9 D5)) hb))
   have G0 := fun (F9 : b 13 = true) (D5 : b 15 = false) => (show w25.heap[j6]? = some (.cells #[.float .f64 0, .float .f64 0] 39 (0, 0)) from by first | exact (blk_below (g := j6) (o := .cells #[.float .f64 0, .float .f64 0] 39 (0, 0)) (by (with_reducible repeat (first | refine blk_drewN ?_ _ | refine blk_drew ?_ | refine blk_alloc ?_ _)); exact (b2 F9 D5)) hb))
   clear b3; clear b5; clear b6; clear b7; clear HB
   have b3 := H9
   have b5 := I0
   have b6 := I1
   have b7 := I2
   have HB := I3
   clear H9 I0 I1 I2 I3; (try clear hb); (try clear O8); (try clear hk); (try clear hi)
   refine hK.out _ _ ⟨q3, q4, q5, q6, q7, q8, q9, s0, m3, m4, n3, o2, j5, j6, D0, D1, D2, (.agg #[.float .f64 q9, .float .f64 s0]), D4, A1, t1, t2, t3, t4, (by rw [ha.out]; exact putSel_upk 7 hb_ rfl rfl rfl), (bx_ b3), (bx_ b5), (bx_ b6), (bx_ b7), (hw_ HB), h8, h9, fun _ => y7, fun _ => y8, fun _ => D7, fun _ => D8, fun _ => G1, fun _ => G2, fun _ => H1, fun _ => H2, of_ (hoff 8 (by kernel_rfl)), of_ (hoff 8 (by kernel_rfl)), of_ (hoff 8 (by kernel_rfl)), of_ (hoff 8 (by kernel_rfl)), F8, p3, p4, b8, b9, c0, c1, c2, c3, c4, c5, G0, p5, p6, c6, c7, c8, c9, d0, d1, d2, d3, of_ (hoff 14 (by kernel_rfl)), of_ (hoff 15 (by kernel_rfl)), o4, p0, p2, fun _ => rfl, of_ (hoff 8 (by kernel_rfl)), of_ (hoff 9 (by kernel_rfl)), of_ (hoff 10 (by kernel_rfl)), of_ (hoff 11 (by kernel_rfl)), j3, j4⟩
  refine steps_cons ?_ ?_
  ·rintro b a w' h_ hb_ hon hoff; (iterate 24 (refine Exists.elim h_ ?_; clear h_; intro _ h_)); (iterate 53 (refine And.elim ?_ h_; clear h_; intro _ h_)); rename_i q3 q4 q5 q6 q7 q8 q9 s0 m3 m4 n3 o2 j5 j6 D0 D1 D2 D3 D4 A1 t1 t2 t3 t4 ha a8 a9 b0 b1 Q_HB h8 h9 l0 l1 l5 l6 l9 m0 m6 m7 n4 n5 n6 n7 b4 p3 p4 b8 b9 c0 c1 c2 c3 c4 c5 b2 p5 p6 c6 c7 c8 c9 d0 d1 d2 d3 n1 o8 o4 p0 p2 q2 s9 t0 o6 o7 j3; have j4 := h_; clear h_
   refine ⟨_, rfl, fun K hK => ?_⟩
   have e15 : a.tmps[15]? = some (D0) := by rw [ha]; exact putSel_on (e := (1, 15, D0)) 1 rfl rfl (hon 1 (by kernel_rfl)) rfl
   rw [o4 (hon 1 (by kernel_rfl))] at e15
   have e17 : a.tmps[17]? = some (D1) := by rw [ha]; exact putSel_on (e := (3, 17, D1)) 3 rfl rfl (hon 3 (by kernel_rfl)) rfl
   rw [p0 (hon 3 (by kernel_rfl))] at e17
   have e19 : a.tmps[19]? = some (D2) := by rw [ha]; exact putSel_on (e := (5, 19, D2)) 5 rfl rfl (hon 5 (by kernel_rfl)) rfl
   rw [p2 (hon 5 (by kernel_rfl))] at e19
   have e21 : a.tmps[21]? = some (D3) := by rw [ha]; exact putSel_on (e := (7, 21, D3)) 7 rfl rfl (hon 7 (by kernel_rfl)) rfl
   rw [q2 (hon 7 (by kernel_rfl))] at e21
   replace ha := mk_ ha
   have b3 := mk_ a8; have b5 := mk_ a9; have b6 := mk_ b0; have b7 := mk_ b1; have HB := mk_ Q_HB; have HF_t180 := mk_ (l0 (hon 1 (by kernel_rfl))); have HF_t181 := mk_ (l1 (hon 1 (by kernel_rfl))); have HF_t182 := mk_ (l5 (hon 3 (by kernel_rfl))); have HF_t183 := mk_ (l6 (hon 3 (by kernel_rfl))); have HF_t184 := mk_ (l9 (hon 5 (by kernel_rfl))); have HF_t185 := mk_ (m0 (hon 5 (by kernel_rfl))); have HF_t186 := mk_ (m6 (hon 7 (by kernel_rfl))); have HF_t187 := mk_ (m7 (hon 7 (by kernel_rfl))); have y7 := HF_t180.out; have y8 := HF_t181.out; have D7 := HF_t182.out; have D8 := HF_t183.out; have G1 := HF_t184.out; have G2 := HF_t185.out; have H1 := HF_t186.out; have H2 := HF_t187.out
   refine goes_ Try.func19 (by kernel_rfl) rfl #[.agg #[.float .f64 q3, .float .f64 q4], .agg #[.float .f64 q5, .float .f64 q6], .agg #[.float .f64 q7, .float .f64 q8], .agg #[.float .f64 q9, .float .f64 s0]] (by rfl) rfl rfl (by first | (simp only [List.map_toArray, List.map_cons, List.map_nil, Act.eval, Array.getD_eq_getD_getElem?, Option.getD_some, e15, e17, e19, e21]; done) | (simp only [List.map_toArray, List.map_cons, List.map_nil, Act.eval, Array.getD_eq_getD_getElem?, Option.getD_some, e15, e17, e19, e21]; rfl)) ?_
   with_reducible refine (spec_Flutter.calls q3 R1 q4 R2 q5 R3 q6 R4 q7 R5 q8 R6 q9 R7 s0 R8 Q7 Q8 R9 V0 _ ?A2 ?A3 ?J5 ?J6 ?P0 ?P1 ?P2 ?P3 A9.out).mono ?_
   (case A2 => exact y7)
   (case A3 => exact y8)
   (case J5 => exact D7)
   (case J6 => exact D8)
   (case P0 => exact G1)
   (case P1 => exact G2)
   (case P2 => exact H1)
   (case P3 => exact H2)
   rintro e w26 ⟨m3, m4, n3, o2, rfl, H5, H6, I4, I5, hb⟩
   refine ⟨_, rfl, ?_⟩
   have H9 := bk_ b3 hb
   have I0 := bk_ b5 hb
   have I1 := bk_ b6 hb
   have I2 := bk_ b7 hb
   have I3 := hk_ HB hb
   have F8 := fun (F9 : b 12 = true) (D5 : b 14 = false) => (show w26.heap[j5]? = some (.cells #[.float .f64 0, .float .f64 0] 39 (0, 0)) from by first | exact (blk_below (g := j5) (o := .cells #[.float .f64 0, .float .f64 0] 39 (0, 0)) (by (with_reducible repeat (first | refine blk_drewN ?_ _ | refine blk_drew ?_ | refine blk_alloc ?_ _)); exact (b4 F9 D5)) hb))
   have G0 := fun (F9 : b 13 = true) (D5 : b 15 = false) => (show w26.heap[j6]? = some (.cells #[.float .f64 0, .float .f64 0] 39 (0, 0)) from by first | exact (blk_below (g := j6) (o := .cells #[.float .f64 0, .float .f64 0] 39 (0, 0)) (by (with_reducible repeat (first | refine blk_drewN ?_ _ | refine blk_drew ?_ | refine blk_alloc ?_ _)); exact (b2 F9 D5)) hb))
   clear b3; clear b5; clear b6; clear b7; clear HB
   have b3 := H9
   have b5 := I0
   have b6 := I1
   have b7 := I2
   have HB := I3
   clear H9 I0 I1 I2 I3; (try clear hb); (try clear O8); (try clear hk); (try clear hi)
   refine hK.out _ _ ⟨q3, q4, q5, q6, q7, q8, q9, s0, m3, m4, n3, o2, j5, j6, D0, D1, D2, D3, (.tuple #[.agg #[.float .f64 m3, .float .f64 m4], .agg #[.float .f64 n3, .float .f64 o2]]), A1, t1, t2, t3, t4, (by rw [ha.out]; exact putSel_upk 8 hb_ rfl rfl rfl), (bx_ b3), (bx_ b5), (bx_ b6), (bx_ b7), (hw_ HB), h8, h9, fun _ => y7, fun _ => y8, fun _ => D7, fun _ => D8, fun _ => G1, fun _ => G2, fun _ => H1, fun _ => H2, fun _ => H5, fun _ => H6, fun _ => I4, fun _ => I5, F8, p3, p4, b8, b9, c0, c1, c2, c3, c4, c5, G0, p5, p6, c6, c7, c8, c9, d0, d1, d2, d3, of_ (hoff 14 (by kernel_rfl)), of_ (hoff 15 (by kernel_rfl)), o4, p0, p2, q2, fun _ => rfl, of_ (hoff 9 (by kernel_rfl)), of_ (hoff 10 (by kernel_rfl)), of_ (hoff 11 (by kernel_rfl)), j3, j4⟩
  refine steps_cons ?_ ?_
  ·rintro b a w' h_ hb_ hon hoff; (iterate 24 (refine Exists.elim h_ ?_; clear h_; intro _ h_)); (iterate 53 (refine And.elim ?_ h_; clear h_; intro _ h_)); rename_i q3 q4 q5 q6 q7 q8 q9 s0 m3 m4 n3 o2 j5 j6 D0 D1 D2 D3 D4 A1 t1 t2 t3 t4 ha a8 a9 b0 b1 Q_HB h8 h9 l0 l1 l5 l6 l9 m0 m6 m7 n4 n5 n6 n7 b4 p3 p4 b8 b9 c0 c1 c2 c3 c4 c5 b2 p5 p6 c6 c7 c8 c9 d0 d1 d2 d3 n1 o8 o4 p0 p2 q2 s9 t0 o6 o7 j3; have j4 := h_; clear h_
   refine ⟨_, rfl, fun K hK => ?_⟩
   have e22 : a.tmps[22]? = some (D4) := by rw [ha]; exact putSel_on (e := (8, 22, D4)) 8 rfl rfl (hon 8 (by kernel_rfl)) rfl
   rw [s9 (hon 8 (by kernel_rfl))] at e22
   replace ha := mk_ ha
   have b3 := mk_ a8; have b5 := mk_ a9; have b6 := mk_ b0; have b7 := mk_ b1; have HB := mk_ Q_HB; have HF_t180 := mk_ (l0 (hon 1 (by kernel_rfl))); have HF_t181 := mk_ (l1 (hon 1 (by kernel_rfl))); have HF_t182 := mk_ (l5 (hon 3 (by kernel_rfl))); have HF_t183 := mk_ (l6 (hon 3 (by kernel_rfl))); have HF_t184 := mk_ (l9 (hon 5 (by kernel_rfl))); have HF_t185 := mk_ (m0 (hon 5 (by kernel_rfl))); have HF_t186 := mk_ (m6 (hon 7 (by kernel_rfl))); have HF_t187 := mk_ (m7 (hon 7 (by kernel_rfl))); have HF_t188 := mk_ (n4 (hon 8 (by kernel_rfl))); have HF_t189 := mk_ (n5 (hon 8 (by kernel_rfl))); have HF_t190 := mk_ (n6 (hon 8 (by kernel_rfl))); have HF_t191 := mk_ (n7 (hon 8 (by kernel_rfl)))
   refine value_ (w1 := w') (v := .tuple #[.agg #[.float .f64 m3, .float .f64 m4], .agg #[.float .f64 n3, .float .f64 o2]]) (by rfl) rfl ?_ ?_
   ·go_simp
    (try simp only [i64_w])
    try rfl
   refine hK.out _ _ ⟨q3, q4, q5, q6, q7, q8, q9, s0, m3, m4, n3, o2, j5, j6, D0, D1, D2, D3, D4, (.tuple #[.agg #[.float .f64 m3, .float .f64 m4], .agg #[.float .f64 n3, .float .f64 o2]]), t1, t2, t3, t4, (by rw [ha.out]; exact putSel_upk 9 hb_ rfl rfl rfl), a8, a9, b0, b1, Q_HB, h8, h9, l0, l1, l5, l6, l9, m0, m6, m7, n4, n5, n6, n7, b4, p3, p4, b8, b9, c0, c1, c2, c3, c4, c5, b2, p5, p6, c6, c7, c8, c9, d0, d1, d2, d3, of_ (hoff 14 (by kernel_rfl)), of_ (hoff 15 (by kernel_rfl)), o4, p0, p2, q2, s9, fun _ => rfl, of_ (hoff 10 (by kernel_rfl)), of_ (hoff 11 (by kernel_rfl)), j3, j4⟩
  refine steps_cons ?_ ?_
  ·rintro b a w' h_ hb_ hon hoff; (iterate 24 (refine Exists.elim h_ ?_; clear h_; intro _ h_)); (iterate 53 (refine And.elim ?_ h_; clear h_; intro _ h_)); rename_i q3 q4 q5 q6 q7 q8 q9 s0 m3 m4 n3 o2 j5 j6 D0 D1 D2 D3 D4 A1 t1 t2 t3 t4 ha a8 a9 b0 b1 Q_HB h8 h9 l0 l1 l5 l6 l9 m0 m6 m7 n4 n5 n6 n7 b4 p3 p4 b8 b9 c0 c1 c2 c3 c4 c5 b2 p5 p6 c6 c7 c8 c9 d0 d1 d2 d3 n1 o8 o4 p0 p2 q2 s9 t0 o6 o7 j3; have j4 := h_; clear h_
   refine ⟨_, rfl, fun K hK => ?_⟩
   have e13 : a.tmps[13]? = some (A1) := by rw [ha]; exact putSel_on (e := (9, 13, A1)) 9 rfl rfl (hon 9 (by kernel_rfl)) rfl
   rw [t0 (hon 9 (by kernel_rfl))] at e13
   replace ha := mk_ ha
   have b3 := mk_ a8; have b5 := mk_ a9; have b6 := mk_ b0; have b7 := mk_ b1; have HB := mk_ Q_HB; have HF_t180 := mk_ (l0 (hon 1 (by kernel_rfl))); have HF_t181 := mk_ (l1 (hon 1 (by kernel_rfl))); have HF_t182 := mk_ (l5 (hon 3 (by kernel_rfl))); have HF_t183 := mk_ (l6 (hon 3 (by kernel_rfl))); have HF_t184 := mk_ (l9 (hon 5 (by kernel_rfl))); have HF_t185 := mk_ (m0 (hon 5 (by kernel_rfl))); have HF_t186 := mk_ (m6 (hon 7 (by kernel_rfl))); have HF_t187 := mk_ (m7 (hon 7 (by kernel_rfl))); have HF_t188 := mk_ (n4 (hon 8 (by kernel_rfl))); have HF_t189 := mk_ (n5 (hon 8 (by kernel_rfl))); have HF_t190 := mk_ (n6 (hon 8 (by kernel_rfl))); have HF_t191 := mk_ (n7 (hon 8 (by kernel_rfl)))
   refine value_ (w1 := w') (v := .agg #[.float .f64 m3, .float .f64 m4]) (by rfl) rfl ?_ ?_
   ·go_simp
    (try simp only [i64_w])
    try rfl
   refine hK.out _ _ ⟨q3, q4, q5, q6, q7, q8, q9, s0, m3, m4, n3, o2, j5, j6, D0, D1, D2, D3, D4, A1, (.agg #[.float .f64 m3, .float .f64 m4]), t2, t3, t4, (by rw [ha.out]; exact putSel_upk 10 hb_ rfl rfl rfl), a8, a9, b0, b1, Q_HB, h8, h9, l0, l1, l5, l6, l9, m0, m6, m7, n4, n5, n6, n7, b4, p3, p4, b8, b9, c0, c1, c2, c3, c4, c5, b2, p5, p6, c6, c7, c8, c9, d0, d1, d2, d3, of_ (hoff 14 (by kernel_rfl)), of_ (hoff 15 (by kernel_rfl)), o4, p0, p2, q2, s9, t0, fun _ => rfl, o7, j3, j4⟩
  refine steps_cons ?_ ?_
  ·rintro b a w' h_ hb_ hon hoff; (iterate 24 (refine Exists.elim h_ ?_; clear h_; intro _ h_)); (iterate 53 (refine And.elim ?_ h_; clear h_; intro _ h_)); rename_i q3 q4 q5 q6 q7 q8 q9 s0 m3 m4 n3 o2 j5 j6 D0 D1 D2 D3 D4 A1 t1 t2 t3 t4 ha a8 a9 b0 b1 Q_HB h8 h9 l0 l1 l5 l6 l9 m0 m6 m7 n4 n5 n6 n7 b4 p3 p4 b8 b9 c0 c1 c2 c3 c4 c5 b2 p5 p6 c6 c7 c8 c9 d0 d1 d2 d3 n1 o8 o4 p0 p2 q2 s9 t0 o6 o7 j3; have j4 := h_; clear h_
   refine ⟨_, rfl, fun K hK => ?_⟩
   have e13 : a.tmps[13]? = some (A1) := by rw [ha]; exact putSel_on (e := (9, 13, A1)) 9 rfl rfl (hon 9 (by kernel_rfl)) rfl
   rw [t0 (hon 9 (by kernel_rfl))] at e13
   replace ha := mk_ ha
   have b3 := mk_ a8; have b5 := mk_ a9; have b6 := mk_ b0; have b7 := mk_ b1; have HB := mk_ Q_HB; have HF_t180 := mk_ (l0 (hon 1 (by kernel_rfl))); have HF_t181 := mk_ (l1 (hon 1 (by kernel_rfl))); have HF_t182 := mk_ (l5 (hon 3 (by kernel_rfl))); have HF_t183 := mk_ (l6 (hon 3 (by kernel_rfl))); have HF_t184 := mk_ (l9 (hon 5 (by kernel_rfl))); have HF_t185 := mk_ (m0 (hon 5 (by kernel_rfl))); have HF_t186 := mk_ (m6 (hon 7 (by kernel_rfl))); have HF_t187 := mk_ (m7 (hon 7 (by kernel_rfl))); have HF_t188 := mk_ (n4 (hon 8 (by kernel_rfl))); have HF_t189 := mk_ (n5 (hon 8 (by kernel_rfl))); have HF_t190 := mk_ (n6 (hon 8 (by kernel_rfl))); have HF_t191 := mk_ (n7 (hon 8 (by kernel_rfl)))
   refine value_ (w1 := w') (v := .agg #[.float .f64 n3, .float .f64 o2]) (by rfl) rfl ?_ ?_
   ·go_simp
    (try simp only [i64_w])
    try rfl
   refine hK.out _ _ ⟨q3, q4, q5, q6, q7, q8, q9, s0, m3, m4, n3, o2, j5, j6, D0, D1, D2, D3, D4, A1, t1, (.agg #[.float .f64 n3, .float .f64 o2]), t3, t4, (by rw [ha.out]; exact putSel_upk 11 hb_ rfl rfl rfl), a8, a9, b0, b1, Q_HB, h8, h9, l0, l1, l5, l6, l9, m0, m6, m7, n4, n5, n6, n7, b4, p3, p4, b8, b9, c0, c1, c2, c3, c4, c5, b2, p5, p6, c6, c7, c8, c9, d0, d1, d2, d3, n1, of_ (hoff 15 (by kernel_rfl)), o4, p0, p2, q2, s9, t0, o6, fun _ => rfl, j3, j4⟩
  refine steps_cons ?_ ?_
  ·rintro b a w' h_ hb_ hon hoff; (iterate 24 (refine Exists.elim h_ ?_; clear h_; intro _ h_)); (iterate 53 (refine And.elim ?_ h_; clear h_; intro _ h_)); rename_i q3 q4 q5 q6 q7 q8 q9 s0 m3 m4 n3 o2 j5 j6 D0 D1 D2 D3 D4 A1 t1 t2 t3 t4 ha a8 a9 b0 b1 Q_HB h8 h9 l0 l1 l5 l6 l9 m0 m6 m7 n4 n5 n6 n7 b4 p3 p4 b8 b9 c0 c1 c2 c3 c4 c5 b2 p5 p6 c6 c7 c8 c9 d0 d1 d2 d3 n1 o8 o4 p0 p2 q2 s9 t0 o6 o7 j3; have j4 := h_; clear h_
   refine ⟨_, rfl, fun K hK => ?_⟩
   replace ha := mk_ ha
   have b3 := mk_ a8; have b5 := mk_ a9; have b6 := mk_ b0; have b7 := mk_ b1; have HB := mk_ Q_HB
   refine box_step ?hg (N := 9) ?hd (cs := #[.float .f64 0, .float .f64 0]) (t := 39) ?hr ?_; (case hd => rfl); (case hg => rfl); (case hr => exact hr_)
   intro j5 hg W8 hbox hb
   have H9 := bk_ b3 hb
   have I0 := bk_ b5 hb
   have I1 := bk_ b6 hb
   have I2 := bk_ b7 hb
   have I3 := hk_ HB hb
   have J7 := mk_ (hbox)
   have J8 := gk_ hg HB
   have P4 := gk_ hg HB
   have P5 := nk_ hg b3
   have P6 := nj_ hg b3
   have J9 := nk_ hg b5
   have L0 := nj_ hg b5
   have L1 := nk_ hg b6
   have L2 := nj_ hg b6
   have L3 := nk_ hg b7
   have L4 := nj_ hg b7
   have I8 := fun (F9 : up b 12 12 = true) (D5 : up b 12 13 = true) => (show j6 ≠ j5 from (by cases hq_ : b 15 with | false => exact ((by rw [hg]; exact Nat.ne_of_lt (blk_lt (g := j6) (o := .cells #[.float .f64 0, .float .f64 0] 39 (0, 0)) (by (with_reducible repeat (first | refine blk_drewN ?_ _ | refine blk_drew ?_ | refine blk_alloc ?_ _)); exact (b2 D5 hq_))) : j6 ≠ j5)) | true => exact ((by rw [hg]; exact Nat.ne_of_lt (blk_lt (g := j6) (o := .cells #[.float .f64 n3, .float .f64 o2] 39 (0, 0)) (by (with_reducible repeat (first | refine blk_drewN ?_ _ | refine blk_drew ?_ | refine blk_alloc ?_ _)); exact (o8 hq_))) : j6 ≠ j5))))
   have I9 := fun (F9 : up b 12 12 = true) (D5 : up b 12 13 = true) => (show j5 ≠ j6 from (by cases hq_ : b 15 with | false => exact ((by rw [hg]; exact Nat.ne_of_gt (blk_lt (g := j6) (o := .cells #[.float .f64 0, .float .f64 0] 39 (0, 0)) (by (with_reducible repeat (first | refine blk_drewN ?_ _ | refine blk_drew ?_ | refine blk_alloc ?_ _)); exact (b2 D5 hq_))) : j5 ≠ j6)) | true => exact ((by rw [hg]; exact Nat.ne_of_gt (blk_lt (g := j6) (o := .cells #[.float .f64 n3, .float .f64 o2] 39 (0, 0)) (by (with_reducible repeat (first | refine blk_drewN ?_ _ | refine blk_drew ?_ | refine blk_alloc ?_ _)); exact (o8 hq_))) : j5 ≠ j6))))
   have G0 := fun (F9 : b 13 = true) (D5 : b 15 = false) => (show W8.heap[j6]? = some (.cells #[.float .f64 0, .float .f64 0] 39 (0, 0)) from by first | exact (blk_below (g := j6) (o := .cells #[.float .f64 0, .float .f64 0] 39 (0, 0)) (by (with_reducible repeat (first | refine blk_drewN ?_ _ | refine blk_drew ?_ | refine blk_alloc ?_ _)); exact (b2 F9 D5)) hb))
   clear b3; clear b5; clear b6; clear b7; clear HB
   have b3 := H9
   have b5 := I0
   have b6 := I1
   have b7 := I2
   have HB := I3
   have j9 := J7
   have M7 := J8
   have L5 := P4
   have A4 := P5
   have E2 := P6
   have B0 := J9
   have E3 := L0
   have B3 := L1
   have E4 := L2
   have B4 := L3
   have E5 := L4
   clear H9 I0 I1 I2 I3 J7 J8 P4 P5 P6 J9 L0 L1 L2 L3 L4; clear hb hbox hg
   refine hK.out _ _ ⟨q3, q4, q5, q6, q7, q8, q9, s0, m3, m4, n3, o2, j5, j6, D0, D1, D2, D3, D4, A1, t1, t2, (.pointer (some ⟨j5, 0, none⟩)), t4, (by rw [ha.out]; exact putSel_upk 12 hb_ rfl rfl rfl), (bx_ b3), (bx_ b5), (bx_ b6), (bx_ b7), (hw_ HB), I8, I9, l0, l1, l5, l6, l9, m0, m6, m7, n4, n5, n6, n7, fun _ _ => (bx_ j9), fun _ => M7.out, fun _ => L5.out, fun _ => A4.out, fun _ => E2.out, fun _ => B0.out, fun _ => E3.out, fun _ => B3.out, fun _ => E4.out, fun _ => B4.out, fun _ => E5.out, G0, p5, p6, c6, c7, c8, c9, d0, d1, d2, d3, of_ (hoff 14 (by kernel_rfl)), of_ (hoff 15 (by kernel_rfl)), o4, p0, p2, q2, s9, t0, o6, o7, fun _ => rfl, j4⟩
  refine steps_cons ?_ ?_
  ·rintro b a w' h_ hb_ hon hoff; (iterate 24 (refine Exists.elim h_ ?_; clear h_; intro _ h_)); (iterate 53 (refine And.elim ?_ h_; clear h_; intro _ h_)); rename_i q3 q4 q5 q6 q7 q8 q9 s0 m3 m4 n3 o2 j5 j6 D0 D1 D2 D3 D4 A1 t1 t2 t3 t4 ha a8 a9 b0 b1 Q_HB h8 h9 l0 l1 l5 l6 l9 m0 m6 m7 n4 n5 n6 n7 b4 p3 p4 b8 b9 c0 c1 c2 c3 c4 c5 b2 p5 p6 c6 c7 c8 c9 d0 d1 d2 d3 n1 o8 o4 p0 p2 q2 s9 t0 o6 o7 j3; have j4 := h_; clear h_
   refine ⟨_, rfl, fun K hK => ?_⟩
   replace ha := mk_ ha
   have b3 := mk_ a8; have b5 := mk_ a9; have b6 := mk_ b0; have b7 := mk_ b1; have HB := mk_ Q_HB
   refine box_step ?hg (N := 10) ?hd (cs := #[.float .f64 0, .float .f64 0]) (t := 39) ?hr ?_; (case hd => rfl); (case hg => rfl); (case hr => exact hr_)
   intro j6 hg W8 hbox hb
   have H9 := bk_ b3 hb
   have I0 := bk_ b5 hb
   have I1 := bk_ b6 hb
   have I2 := bk_ b7 hb
   have I3 := hk_ HB hb
   have J7 := mk_ (hbox)
   have J8 := gk_ hg HB
   have P4 := gk_ hg HB
   have P5 := nk_ hg b3
   have P6 := nj_ hg b3
   have J9 := nk_ hg b5
   have L0 := nj_ hg b5
   have L1 := nk_ hg b6
   have L2 := nj_ hg b6
   have L3 := nk_ hg b7
   have L4 := nj_ hg b7
   have I8 := fun (F9 : up b 13 12 = true) (D5 : up b 13 13 = true) => (show j6 ≠ j5 from (by cases hq_ : b 14 with | false => exact ((by rw [hg]; exact Nat.ne_of_gt (blk_lt (g := j5) (o := .cells #[.float .f64 0, .float .f64 0] 39 (0, 0)) (by (with_reducible repeat (first | refine blk_drewN ?_ _ | refine blk_drew ?_ | refine blk_alloc ?_ _)); exact (b4 F9 hq_))) : j6 ≠ j5)) | true => exact ((by rw [hg]; exact Nat.ne_of_gt (blk_lt (g := j5) (o := .cells #[.float .f64 m3, .float .f64 m4] 39 (0, 0)) (by (with_reducible repeat (first | refine blk_drewN ?_ _ | refine blk_drew ?_ | refine blk_alloc ?_ _)); exact (n1 hq_))) : j6 ≠ j5))))
   have I9 := fun (F9 : up b 13 12 = true) (D5 : up b 13 13 = true) => (show j5 ≠ j6 from (by cases hq_ : b 14 with | false => exact ((by rw [hg]; exact Nat.ne_of_lt (blk_lt (g := j5) (o := .cells #[.float .f64 0, .float .f64 0] 39 (0, 0)) (by (with_reducible repeat (first | refine blk_drewN ?_ _ | refine blk_drew ?_ | refine blk_alloc ?_ _)); exact (b4 F9 hq_))) : j5 ≠ j6)) | true => exact ((by rw [hg]; exact Nat.ne_of_lt (blk_lt (g := j5) (o := .cells #[.float .f64 m3, .float .f64 m4] 39 (0, 0)) (by (with_reducible repeat (first | refine blk_drewN ?_ _ | refine blk_drew ?_ | refine blk_alloc ?_ _)); exact (n1 hq_))) : j5 ≠ j6))))
   have F8 := fun (F9 : b 12 = true) (D5 : b 14 = false) => (show W8.heap[j5]? = some (.cells #[.float .f64 0, .float .f64 0] 39 (0, 0)) from by first | exact (blk_below (g := j5) (o := .cells #[.float .f64 0, .float .f64 0] 39 (0, 0)) (by (with_reducible repeat (first | refine blk_drewN ?_ _ | refine blk_drew ?_ | refine blk_alloc ?_ _)); exact (b4 F9 D5)) hb))
   clear b3; clear b5; clear b6; clear b7; clear HB
   have b3 := H9
   have b5 := I0
   have b6 := I1
   have b7 := I2
   have HB := I3
   have l4 := J7
   have M8 := J8
   have L6 := P4
   have B5 := P5
   have E6 := P6
   have B6 := J9
   have E7 := L0
   have B7 := L1
   have E8 := L2
   have B8 := L3
   have E9 := L4
   clear H9 I0 I1 I2 I3 J7 J8 P4 P5 P6 J9 L0 L1 L2 L3 L4; clear hb hbox hg
   refine hK.out _ _ ⟨q3, q4, q5, q6, q7, q8, q9, s0, m3, m4, n3, o2, j5, j6, D0, D1, D2, D3, D4, A1, t1, t2, t3, (.pointer (some ⟨j6, 0, none⟩)), (by rw [ha.out]; exact putSel_upk 13 hb_ rfl rfl rfl), (bx_ b3), (bx_ b5), (bx_ b6), (bx_ b7), (hw_ HB), I8, I9, l0, l1, l5, l6, l9, m0, m6, m7, n4, n5, n6, n7, F8, p3, p4, b8, b9, c0, c1, c2, c3, c4, c5, fun _ _ => (bx_ l4), fun _ => M8.out, fun _ => L6.out, fun _ => B5.out, fun _ => E6.out, fun _ => B6.out, fun _ => E7.out, fun _ => B7.out, fun _ => E8.out, fun _ => B8.out, fun _ => E9.out, of_ (hoff 14 (by kernel_rfl)), of_ (hoff 15 (by kernel_rfl)), o4, p0, p2, q2, s9, t0, o6, o7, j3, fun _ => rfl⟩
  refine steps_cons ?_ ?_
  ·rintro b a w' h_ hb_ hon hoff; (iterate 24 (refine Exists.elim h_ ?_; clear h_; intro _ h_)); (iterate 53 (refine And.elim ?_ h_; clear h_; intro _ h_)); rename_i q3 q4 q5 q6 q7 q8 q9 s0 m3 m4 n3 o2 j5 j6 D0 D1 D2 D3 D4 A1 t1 t2 t3 t4 ha a8 a9 b0 b1 Q_HB h8 h9 l0 l1 l5 l6 l9 m0 m6 m7 n4 n5 n6 n7 b4 p3 p4 b8 b9 c0 c1 c2 c3 c4 c5 b2 p5 p6 c6 c7 c8 c9 d0 d1 d2 d3 n1 o8 o4 p0 p2 q2 s9 t0 o6 o7 j3; have j4 := h_; clear h_
   refine ⟨_, rfl, fun K hK => ?_⟩
   have e9 : a.tmps[9]? = some (t3) := by rw [ha]; exact putSel_on (e := (12, 9, t3)) 12 rfl rfl (hon 12 (by kernel_rfl)) rfl
   rw [j3 (hon 12 (by kernel_rfl))] at e9
   have e23 : a.tmps[23]? = some (t1) := by rw [ha]; exact putSel_on (e := (10, 23, t1)) 10 rfl rfl (hon 10 (by kernel_rfl)) rfl
   rw [o6 (hon 10 (by kernel_rfl))] at e23
   replace ha := mk_ ha
   have b3 := mk_ a8; have b5 := mk_ a9; have b6 := mk_ b0; have b7 := mk_ b1; have HB := mk_ Q_HB; have t7 := mk_ (h8 (hon 12 (by kernel_rfl)) (hon 13 (by kernel_rfl))); have t8 := mk_ (h9 (hon 12 (by kernel_rfl)) (hon 13 (by kernel_rfl))); have HF_t180 := mk_ (l0 (hon 1 (by kernel_rfl))); have HF_t181 := mk_ (l1 (hon 1 (by kernel_rfl))); have HF_t182 := mk_ (l5 (hon 3 (by kernel_rfl))); have HF_t183 := mk_ (l6 (hon 3 (by kernel_rfl))); have HF_t184 := mk_ (l9 (hon 5 (by kernel_rfl))); have HF_t185 := mk_ (m0 (hon 5 (by kernel_rfl))); have HF_t186 := mk_ (m6 (hon 7 (by kernel_rfl))); have HF_t187 := mk_ (m7 (hon 7 (by kernel_rfl))); have HF_t188 := mk_ (n4 (hon 8 (by kernel_rfl))); have HF_t189 := mk_ (n5 (hon 8 (by kernel_rfl))); have HF_t190 := mk_ (n6 (hon 8 (by kernel_rfl))); have HF_t191 := mk_ (n7 (hon 8 (by kernel_rfl))); have j9 := mk_ (b4 (hon 12 (by kernel_rfl)) hb_); have M7 := mk_ (p3 (hon 12 (by kernel_rfl))); have L5 := mk_ (p4 (hon 12 (by kernel_rfl))); have A4 := mk_ (b8 (hon 12 (by kernel_rfl))); have E2 := mk_ (b9 (hon 12 (by kernel_rfl))); have B0 := mk_ (c0 (hon 12 (by kernel_rfl))); have E3 := mk_ (c1 (hon 12 (by kernel_rfl))); have B3 := mk_ (c2 (hon 12 (by kernel_rfl))); have E4 := mk_ (c3 (hon 12 (by kernel_rfl))); have B4 := mk_ (c4 (hon 12 (by kernel_rfl))); have E5 := mk_ (c5 (hon 12 (by kernel_rfl))); have l4 := mk_ (b2 (hon 13 (by kernel_rfl)) (hoff 15 (by kernel_rfl))); have M8 := mk_ (p5 (hon 13 (by kernel_rfl))); have L6 := mk_ (p6 (hon 13 (by kernel_rfl))); have B5 := mk_ (c6 (hon 13 (by kernel_rfl))); have E6 := mk_ (c7 (hon 13 (by kernel_rfl))); have B6 := mk_ (c8 (hon 13 (by kernel_rfl)))
   have E7 := mk_ (c9 (hon 13 (by kernel_rfl))); have B7 := mk_ (d0 (hon 13 (by kernel_rfl))); have E8 := mk_ (d1 (hon 13 (by kernel_rfl))); have B8 := mk_ (d2 (hon 13 (by kernel_rfl))); have E9 := mk_ (d3 (hon 13 (by kernel_rfl))); have y7 := HF_t180.out; have y8 := HF_t181.out; have D7 := HF_t182.out; have D8 := HF_t183.out; have G1 := HF_t184.out; have G2 := HF_t185.out; have H1 := HF_t186.out; have H2 := HF_t187.out; have H5 := HF_t188.out; have H6 := HF_t189.out; have I4 := HF_t190.out; have I5 := HF_t191.out
   have an8 : w'.cell? ⟨j5, 0, none⟩ = some (.float .f64 0) := bc0_ j9
   have ak6 := blk_frozen j9.out 0
   have Y2 := A4.out; have Y3 := B0.out
   have Y4 := B3.out; have Y5 := B4.out
   have Y6 := t7.out; have Y7 := E2.out
   have Y8 := E3.out; have Y9 := E4.out
   have Z0 := E5.out; have Z1 := t8.out
   have an9 : w'.cell? ⟨j5, 1, none⟩ = some (.float .f64 0) := bc1_ j9
   have ak7 := blk_frozen j9.out 1
   have Z2 := A4.out; have Z3 := B0.out
   have Z4 := B3.out; have Z5 := B4.out
   have Z6 := t7.out; have Z7 := E2.out
   have Z8 := E3.out; have Z9 := E4.out
   have aa0 := E5.out; have aa1 := t8.out
   refine skip_ (w1 := ?_) (by rfl) rfl ?_ ?_
   rotate_left
   ·go_simp
    rfl
   refine hK.out _ _ ⟨q3, q4, q5, q6, q7, q8, q9, s0, m3, m4, n3, o2, j5, j6, D0, D1, D2, D3, D4, A1, t1, t2, t3, t4, (by rw [ha.out]; exact putSel_none (v := undef) rfl), (by (with_reducible repeat (first | refine blk_drewN ?_ _ | refine blk_drew ?_ | refine blk_alloc ?_ _)); refine blk_far ?_ A4.out _; (with_reducible repeat (first | refine blk_drewN ?_ _ | refine blk_drew ?_ | refine blk_alloc ?_ _)); refine blk_far ?_ A4.out _; (with_reducible repeat (first | refine blk_drewN ?_ _ | refine blk_drew ?_ | refine blk_alloc ?_ _)); exact b3.out), (by (with_reducible repeat (first | refine blk_drewN ?_ _ | refine blk_drew ?_ | refine blk_alloc ?_ _)); refine blk_far ?_ B0.out _; (with_reducible repeat (first | refine blk_drewN ?_ _ | refine blk_drew ?_ | refine blk_alloc ?_ _)); refine blk_far ?_ B0.out _; (with_reducible repeat (first | refine blk_drewN ?_ _ | refine blk_drew ?_ | refine blk_alloc ?_ _)); exact b5.out), (by (with_reducible repeat (first | refine blk_drewN ?_ _ | refine blk_drew ?_ | refine blk_alloc ?_ _)); refine blk_far ?_ B3.out _; (with_reducible repeat (first | refine blk_drewN ?_ _ | refine blk_drew ?_ | refine blk_alloc ?_ _)); refine blk_far ?_ B3.out _; (with_reducible repeat (first | refine blk_drewN ?_ _ | refine blk_drew ?_ | refine blk_alloc ?_ _)); exact b6.out), (by (with_reducible repeat (first | refine blk_drewN ?_ _ | refine blk_drew ?_ | refine blk_alloc ?_ _)); refine blk_far ?_ B4.out _; (with_reducible repeat (first | refine blk_drewN ?_ _ | refine blk_drew ?_ | refine blk_alloc ?_ _)); refine blk_far ?_ B4.out _; (with_reducible repeat (first | refine blk_drewN ?_ _ | refine blk_drew ?_ | refine blk_alloc ?_ _)); exact b7.out), (by repeat (first | (with_reducible first | exact HB.out | apply below_alloc | apply pw_below_drewN | apply below_drew1 | refine below_set ?_ L5.out) | exact HB.out)), fun _ _ => t7.out, fun _ _ => t8.out, fun _ => y7, fun _ => y8, fun _ => D7, fun _ => D8, fun _ => G1, fun _ => G2, fun _ => H1, fun _ => H2, fun _ => H5, fun _ => H6, fun _ => I4, fun _ => I5, fun _ D5 => absurd ((up_self b 14).symm.trans D5) (by decide), fun _ => M7.out, fun _ => L5.out, fun _ => A4.out, fun _ => E2.out, fun _ => B0.out, fun _ => E3.out, fun _ => B3.out, fun _ => E4.out, fun _ => B4.out, fun _ => E5.out, fun _ _ => (by (with_reducible repeat (first | refine blk_drewN ?_ _ | refine blk_drew ?_ | refine blk_alloc ?_ _)); refine blk_far ?_ t7.out _; (with_reducible repeat (first | refine blk_drewN ?_ _ | refine blk_drew ?_ | refine blk_alloc ?_ _)); refine blk_far ?_ t7.out _; (with_reducible repeat (first | refine blk_drewN ?_ _ | refine blk_drew ?_ | refine blk_alloc ?_ _)); exact l4.out), fun _ => M8.out, fun _ => L6.out, fun _ => B5.out, fun _ => E6.out, fun _ => B6.out, fun _ => E7.out, fun _ => B7.out, fun _ => E8.out, fun _ => B8.out, fun _ => E9.out, fun _ => (by (with_reducible repeat (first | refine blk_drewN ?_ _ | refine blk_drew ?_ | refine blk_alloc ?_ _)); refine blk_put (cs := #[.float .f64 m3, .float .f64 0]) ?_ 1 _ rfl; (with_reducible repeat (first | refine blk_drewN ?_ _ | refine blk_drew ?_ | refine blk_alloc ?_ _)); refine blk_put (cs := #[.float .f64 0, .float .f64 0]) ?_ 0 _ rfl; (with_reducible repeat (first | refine blk_drewN ?_ _ | refine blk_drew ?_ | refine blk_alloc ?_ _)); exact j9.out), of_ (hoff 15 (by kernel_rfl)), o4, p0, p2, q2, s9, t0, o6, o7, j3, j4⟩
  refine steps_cons ?_ ?_
  ·rintro b a w' h_ hb_ hon hoff; (iterate 24 (refine Exists.elim h_ ?_; clear h_; intro _ h_)); (iterate 53 (refine And.elim ?_ h_; clear h_; intro _ h_)); rename_i q3 q4 q5 q6 q7 q8 q9 s0 m3 m4 n3 o2 j5 j6 D0 D1 D2 D3 D4 A1 t1 t2 t3 t4 ha a8 a9 b0 b1 Q_HB h8 h9 l0 l1 l5 l6 l9 m0 m6 m7 n4 n5 n6 n7 b4 p3 p4 b8 b9 c0 c1 c2 c3 c4 c5 b2 p5 p6 c6 c7 c8 c9 d0 d1 d2 d3 n1 o8 o4 p0 p2 q2 s9 t0 o6 o7 j3; have j4 := h_; clear h_
   refine ⟨_, rfl, fun K hK => ?_⟩
   have e10 : a.tmps[10]? = some (t4) := by rw [ha]; exact putSel_on (e := (13, 10, t4)) 13 rfl rfl (hon 13 (by kernel_rfl)) rfl
   rw [j4 (hon 13 (by kernel_rfl))] at e10
   have e24 : a.tmps[24]? = some (t2) := by rw [ha]; exact putSel_on (e := (11, 24, t2)) 11 rfl rfl (hon 11 (by kernel_rfl)) rfl
   rw [o7 (hon 11 (by kernel_rfl))] at e24
   replace ha := mk_ ha
   have b3 := mk_ a8; have b5 := mk_ a9; have b6 := mk_ b0; have b7 := mk_ b1; have HB := mk_ Q_HB; have t7 := mk_ (h8 (hon 12 (by kernel_rfl)) (hon 13 (by kernel_rfl))); have t8 := mk_ (h9 (hon 12 (by kernel_rfl)) (hon 13 (by kernel_rfl))); have HF_t180 := mk_ (l0 (hon 1 (by kernel_rfl))); have HF_t181 := mk_ (l1 (hon 1 (by kernel_rfl))); have HF_t182 := mk_ (l5 (hon 3 (by kernel_rfl))); have HF_t183 := mk_ (l6 (hon 3 (by kernel_rfl))); have HF_t184 := mk_ (l9 (hon 5 (by kernel_rfl))); have HF_t185 := mk_ (m0 (hon 5 (by kernel_rfl))); have HF_t186 := mk_ (m6 (hon 7 (by kernel_rfl))); have HF_t187 := mk_ (m7 (hon 7 (by kernel_rfl))); have HF_t188 := mk_ (n4 (hon 8 (by kernel_rfl))); have HF_t189 := mk_ (n5 (hon 8 (by kernel_rfl))); have HF_t190 := mk_ (n6 (hon 8 (by kernel_rfl))); have HF_t191 := mk_ (n7 (hon 8 (by kernel_rfl))); have M7 := mk_ (p3 (hon 12 (by kernel_rfl))); have L5 := mk_ (p4 (hon 12 (by kernel_rfl))); have A4 := mk_ (b8 (hon 12 (by kernel_rfl))); have E2 := mk_ (b9 (hon 12 (by kernel_rfl))); have B0 := mk_ (c0 (hon 12 (by kernel_rfl))); have E3 := mk_ (c1 (hon 12 (by kernel_rfl))); have B3 := mk_ (c2 (hon 12 (by kernel_rfl))); have E4 := mk_ (c3 (hon 12 (by kernel_rfl))); have B4 := mk_ (c4 (hon 12 (by kernel_rfl))); have E5 := mk_ (c5 (hon 12 (by kernel_rfl))); have l4 := mk_ (b2 (hon 13 (by kernel_rfl)) hb_); have M8 := mk_ (p5 (hon 13 (by kernel_rfl))); have L6 := mk_ (p6 (hon 13 (by kernel_rfl))); have B5 := mk_ (c6 (hon 13 (by kernel_rfl))); have E6 := mk_ (c7 (hon 13 (by kernel_rfl))); have B6 := mk_ (c8 (hon 13 (by kernel_rfl))); have E7 := mk_ (c9 (hon 13 (by kernel_rfl)))
   have B7 := mk_ (d0 (hon 13 (by kernel_rfl))); have E8 := mk_ (d1 (hon 13 (by kernel_rfl))); have B8 := mk_ (d2 (hon 13 (by kernel_rfl))); have E9 := mk_ (d3 (hon 13 (by kernel_rfl))); have j9 := mk_ (n1 (hon 14 (by kernel_rfl))); have y7 := HF_t180.out; have y8 := HF_t181.out; have D7 := HF_t182.out; have D8 := HF_t183.out; have G1 := HF_t184.out; have G2 := HF_t185.out; have H1 := HF_t186.out; have H2 := HF_t187.out; have H5 := HF_t188.out; have H6 := HF_t189.out; have I4 := HF_t190.out; have I5 := HF_t191.out
   have ao0 : w'.cell? ⟨j6, 0, none⟩ = some (.float .f64 0) := bc0_ l4
   have ak8 := blk_frozen l4.out 0
   have aa2 := B5.out; have aa3 := B6.out
   have aa4 := B7.out; have aa5 := B8.out
   have aa6 := t8.out; have aa7 := E6.out
   have aa8 := E7.out; have aa9 := E8.out
   have ab0 := E9.out; have ab1 := t7.out
   have ao1 : w'.cell? ⟨j6, 1, none⟩ = some (.float .f64 0) := bc1_ l4
   have ak9 := blk_frozen l4.out 1
   have ab2 := B5.out; have ab3 := B6.out
   have ab4 := B7.out; have ab5 := B8.out
   have ab6 := t8.out; have ab7 := E6.out
   have ab8 := E7.out; have ab9 := E8.out
   have ac0 := E9.out; have ac1 := t7.out
   refine skip_ (w1 := ?_) (by rfl) rfl ?_ ?_
   rotate_left
   ·go_simp
    rfl
   refine hK.out _ _ ⟨q3, q4, q5, q6, q7, q8, q9, s0, m3, m4, n3, o2, j5, j6, D0, D1, D2, D3, D4, A1, t1, t2, t3, t4, (by rw [ha.out]; exact putSel_none (v := undef) rfl), (by (with_reducible repeat (first | refine blk_drewN ?_ _ | refine blk_drew ?_ | refine blk_alloc ?_ _)); refine blk_far ?_ B5.out _; (with_reducible repeat (first | refine blk_drewN ?_ _ | refine blk_drew ?_ | refine blk_alloc ?_ _)); refine blk_far ?_ B5.out _; (with_reducible repeat (first | refine blk_drewN ?_ _ | refine blk_drew ?_ | refine blk_alloc ?_ _)); exact b3.out), (by (with_reducible repeat (first | refine blk_drewN ?_ _ | refine blk_drew ?_ | refine blk_alloc ?_ _)); refine blk_far ?_ B6.out _; (with_reducible repeat (first | refine blk_drewN ?_ _ | refine blk_drew ?_ | refine blk_alloc ?_ _)); refine blk_far ?_ B6.out _; (with_reducible repeat (first | refine blk_drewN ?_ _ | refine blk_drew ?_ | refine blk_alloc ?_ _)); exact b5.out), (by (with_reducible repeat (first | refine blk_drewN ?_ _ | refine blk_drew ?_ | refine blk_alloc ?_ _)); refine blk_far ?_ B7.out _; (with_reducible repeat (first | refine blk_drewN ?_ _ | refine blk_drew ?_ | refine blk_alloc ?_ _)); refine blk_far ?_ B7.out _; (with_reducible repeat (first | refine blk_drewN ?_ _ | refine blk_drew ?_ | refine blk_alloc ?_ _)); exact b6.out), (by (with_reducible repeat (first | refine blk_drewN ?_ _ | refine blk_drew ?_ | refine blk_alloc ?_ _)); refine blk_far ?_ B8.out _; (with_reducible repeat (first | refine blk_drewN ?_ _ | refine blk_drew ?_ | refine blk_alloc ?_ _)); refine blk_far ?_ B8.out _; (with_reducible repeat (first | refine blk_drewN ?_ _ | refine blk_drew ?_ | refine blk_alloc ?_ _)); exact b7.out), (by repeat (first | (with_reducible first | exact HB.out | apply below_alloc | apply pw_below_drewN | apply below_drew1 | refine below_set ?_ L6.out) | exact HB.out)), fun _ _ => t7.out, fun _ _ => t8.out, fun _ => y7, fun _ => y8, fun _ => D7, fun _ => D8, fun _ => G1, fun _ => G2, fun _ => H1, fun _ => H2, fun _ => H5, fun _ => H6, fun _ => I4, fun _ => I5, fun _ D5 => absurd ((hon 14 (by kernel_rfl)).symm.trans D5) (by decide), fun _ => M7.out, fun _ => L5.out, fun _ => A4.out, fun _ => E2.out, fun _ => B0.out, fun _ => E3.out, fun _ => B3.out, fun _ => E4.out, fun _ => B4.out, fun _ => E5.out, fun _ D5 => absurd ((up_self b 15).symm.trans D5) (by decide), fun _ => M8.out, fun _ => L6.out, fun _ => B5.out, fun _ => E6.out, fun _ => B6.out, fun _ => E7.out, fun _ => B7.out, fun _ => E8.out, fun _ => B8.out, fun _ => E9.out, fun _ => (by (with_reducible repeat (first | refine blk_drewN ?_ _ | refine blk_drew ?_ | refine blk_alloc ?_ _)); refine blk_far ?_ t8.out _; (with_reducible repeat (first | refine blk_drewN ?_ _ | refine blk_drew ?_ | refine blk_alloc ?_ _)); refine blk_far ?_ t8.out _; (with_reducible repeat (first | refine blk_drewN ?_ _ | refine blk_drew ?_ | refine blk_alloc ?_ _)); exact j9.out), fun _ => (by (with_reducible repeat (first | refine blk_drewN ?_ _ | refine blk_drew ?_ | refine blk_alloc ?_ _)); refine blk_put (cs := #[.float .f64 n3, .float .f64 0]) ?_ 1 _ rfl; (with_reducible repeat (first | refine blk_drewN ?_ _ | refine blk_drew ?_ | refine blk_alloc ?_ _)); refine blk_put (cs := #[.float .f64 0, .float .f64 0]) ?_ 0 _ rfl; (with_reducible repeat (first | refine blk_drewN ?_ _ | refine blk_drew ?_ | refine blk_alloc ?_ _)); exact l4.out), o4, p0, p2, q2, s9, t0, o6, o7, j3, j4⟩
  exact steps_nil
 rintro b a w32 hall h_; (iterate 24 (refine Exists.elim h_ ?_; clear h_; intro _ h_)); (iterate 53 (refine And.elim ?_ h_; clear h_; intro _ h_)); rename_i q3 q4 q5 q6 q7 q8 q9 s0 m3 m4 n3 o2 j5 j6 D0 D1 D2 D3 D4 A1 t1 t2 t3 t4 ha a8 a9 b0 b1 Q_HB h8 h9 l0 l1 l5 l6 l9 m0 m6 m7 n4 n5 n6 n7 b4 p3 p4 b8 b9 c0 c1 c2 c3 c4 c5 b2 p5 p6 c6 c7 c8 c9 d0 d1 d2 d3 n1 o8 o4 p0 p2 q2 s9 t0 o6 o7 j3; have j4 := h_; clear h_
 clear b3 b5 b6 b7 HB
 have P7 := hall 0 (by kernel_rfl)
 have L7 := hall 1 (by kernel_rfl)
 have P8 := hall 2 (by kernel_rfl)
 have L8 := hall 3 (by kernel_rfl)
 have P9 := hall 4 (by kernel_rfl)
 have L9 := hall 5 (by kernel_rfl)
 have Q0 := hall 6 (by kernel_rfl)
 have M0 := hall 7 (by kernel_rfl)
 have J2 := hall 8 (by kernel_rfl)
 have O0 := hall 9 (by kernel_rfl)
 have M1 := hall 10 (by kernel_rfl)
 have M2 := hall 11 (by kernel_rfl)
 have t5 := hall 12 (by kernel_rfl)
 have t6 := hall 13 (by kernel_rfl)
 have M3 := hall 14 (by kernel_rfl)
 have M4 := hall 15 (by kernel_rfl)
 subst ha
 obtain rfl := o4 L7
 obtain rfl := p0 L8
 obtain rfl := p2 L9
 obtain rfl := q2 M0
 obtain rfl := s9 J2
 obtain rfl := t0 O0
 obtain rfl := o6 M1
 obtain rfl := o7 M2
 obtain rfl := j3 t5
 obtain rfl := j4 t6
 simp only [putSel, P7, L7, P8, L8, P9, L9, Q0, M0, J2, O0, M1, M2, t5, t6, M3, M4, if_true, Act.put, List.setIfInBounds_toArray, List.set_cons_zero, List.set_cons_succ]
 have b3 := mk_ a8; clear a8; have b5 := mk_ a9; clear a9; have b6 := mk_ b0; clear b0; have b7 := mk_ b1; clear b1; have HB := mk_ Q_HB; clear Q_HB; have t7 := mk_ (h8 t5 t6); clear h8; have t8 := mk_ (h9 t5 t6); clear h9; have HF_t180 := mk_ (l0 L7); clear l0; have HF_t181 := mk_ (l1 L7); clear l1; have HF_t182 := mk_ (l5 L8); clear l5; have HF_t183 := mk_ (l6 L8); clear l6; have HF_t184 := mk_ (l9 L9); clear l9; have HF_t185 := mk_ (m0 L9); clear m0; have HF_t186 := mk_ (m6 M0); clear m6; have HF_t187 := mk_ (m7 M0); clear m7; have HF_t188 := mk_ (n4 J2); clear n4; have HF_t189 := mk_ (n5 J2); clear n5; have HF_t190 := mk_ (n6 J2); clear n6; have HF_t191 := mk_ (n7 J2); clear n7; clear b4; have M7 := mk_ (p3 t5); clear p3; have L5 := mk_ (p4 t5); clear p4; have A4 := mk_ (b8 t5); clear b8; have E2 := mk_ (b9 t5); clear b9; have B0 := mk_ (c0 t5); clear c0; have E3 := mk_ (c1 t5); clear c1; have B3 := mk_ (c2 t5); clear c2; have E4 := mk_ (c3 t5); clear c3; have B4 := mk_ (c4 t5); clear c4; have E5 := mk_ (c5 t5); clear c5; clear b2; have M8 := mk_ (p5 t6); clear p5; have L6 := mk_ (p6 t6); clear p6; have B5 := mk_ (c6 t6); clear c6; have E6 := mk_ (c7 t6); clear c7; have B6 := mk_ (c8 t6); clear c8; have E7 := mk_ (c9 t6); clear c9; have B7 := mk_ (d0 t6)
 clear d0; have E8 := mk_ (d1 t6); clear d1; have B8 := mk_ (d2 t6); clear d2; have E9 := mk_ (d3 t6); clear d3; have j9 := mk_ (n1 M3); clear n1; have l4 := mk_ (o8 M4); clear o8; clear hall P7 L7 P8 L8 P9 L9 Q0 M0 J2 O0 M1 M2 t5 t6 M3 M4; have y7 := HF_t180.out; have y8 := HF_t181.out; have D7 := HF_t182.out; have D8 := HF_t183.out; have G1 := HF_t184.out; have G2 := HF_t185.out; have H1 := HF_t186.out; have H2 := HF_t187.out; have H5 := HF_t188.out; have H6 := HF_t189.out; have I4 := HF_t190.out; have I5 := HF_t191.out
 try go_wp2
 replace b3 := dB_ b3; replace b5 := dB_ b5; replace b6 := dB_ b6; replace b7 := dB_ b7; replace j9 := dB_ j9; replace l4 := dB_ l4; replace HB := dH_ HB
 refine start_ (n := 16) (S := fun w' => True) (ds := []) (bs_ 16 0) (by kernel_rfl) rfl rfl trivial (fun hHeld => ?_); refine with_tabW laws_FnExactFlutter.tab2 laws_FnExactFlutter.bits2 (fun HT_ HW_ => ?_)
 generalize w32.drew = w33 at b3 b5 b6 b7 j9 l4 HB hHeld ⊢
 refine inv_at [0, 1, 2, 3, 4, 5, 6, 7, 8, 9, 10, 11, 12, 13, 14, 15] (fun a0_ b a w' => ∃ (s1 : Nat) (s2 : Nat) (s3 : Nat) (s4 : Nat) (s5 : Nat) (s6 : Nat) (s7 : Nat) (s8 : Nat) (m5 : Nat) (n0 : Nat) (o3 : Nat) (o5 : Nat) (j7 : Nat) (j8 : Nat) (D0 : Value) (D1 : Value) (D2 : Value) (D3 : Value) (D4 : Value) (A1 : Value) (t1 : Value) (t2 : Value) (t3 : Value) (t4 : Value), a = putSel a0_ b [(0, 26, .agg #[.float .f64 b_a0_0, .float .f64 b_a0_1]), (1, 27, D0), (2, 28, .agg #[.float .f64 b_a1_0, .float .f64 b_a1_1]), (3, 29, D1), (4, 30, .agg #[.float .f64 b_a2_0, .float .f64 b_a2_1]), (5, 31, D2), (6, 32, .agg #[.float .f64 b_a3_0, .float .f64 b_a3_1]), (7, 33, D3), (8, 34, D4), (9, 25, A1), (10, 35, t1), (11, 36, t2), (12, 11, t3), (13, 12, t4)] ∧ (w'.heap[G7]? = some (.cells #[.float .f64 b_a0_0, .float .f64 b_a0_1] 38 (0, 0))) ∧ (w'.heap[G8]? = some (.cells #[.float .f64 b_a1_0, .float .f64 b_a1_1] 38 (0, 0))) ∧ (w'.heap[G9]? = some (.cells #[.float .f64 b_a2_0, .float .f64 b_a2_1] 38 (0, 0))) ∧ (w'.heap[H0]? = some (.cells #[.float .f64 b_a3_0, .float .f64 b_a3_1] 38 (0, 0))) ∧ (w'.heap[j5]? = some (.cells #[.float .f64 m3, .float .f64 m4] 39 (0, 0))) ∧ (w'.heap[j6]? = some (.cells #[.float .f64 n3, .float .f64 o2] 39 (0, 0))) ∧ (Below w.heap.size w w') ∧ (b 12 = true → b 13 = true → j8 ≠ j7) ∧ (b 12 = true → b 13 = true → j7 ≠ j8) ∧ (b 1 = true → cn .f64 s1 = V1) ∧ (b 1 = true → cn .f64 s2 = V2) ∧ (b 3 = true → cn .f64 s3 = V3) ∧ (b 3 = true → cn .f64 s4 = V4) ∧ (b 5 = true → cn .f64 s5 = V5) ∧ (b 5 = true → cn .f64 s6 = V6) ∧ (b 7 = true → cn .f64 s7 = V7) ∧ (b 7 = true → cn .f64 s8 = V8) ∧ (b 8 = true → cn .f64 m5 = Q9) ∧ (b 8 = true → cn .f64 n0 = R0) ∧ (b 8 = true → cn .f64 o3 = V9) ∧ (b 8 = true → cn .f64 o5 = W0) ∧ (b 12 = true → b 14 = false → w'.heap[j7]? = some (.cells #[.float .f64 0, .float .f64 0] 39 (0, 0))) ∧ (b 12 = true → w.heap.size ≤ j7) ∧ (b 12 = true → w.heap.size ≤ j7) ∧ (b 12 = true → G7 ≠ j7) ∧ (b 12 = true → j7 ≠ G7) ∧ (b 12 = true → G8 ≠ j7) ∧ (b 12 = true → j7 ≠ G8) ∧ (b 12 = true → G9 ≠ j7) ∧ (b 12 = true → j7 ≠ G9) ∧ (b 12 = true → H0 ≠ j7) ∧ (b 12 = true → j7 ≠ H0) ∧ (b 12 = true → j5 ≠ j7) ∧ (b 12 = true → j7 ≠ j5) ∧ (b 12 = true → j6 ≠ j7) ∧ (b 12 = true → j7 ≠ j6) ∧ (b 13 = true → b 15 = false → w'.heap[j8]? = some (.cells #[.float .f64 0, .float .f64 0] 39 (0, 0))) ∧ (b 13 = true → w.heap.size ≤ j8) ∧ (b 13 = true → w.heap.size ≤ j8) ∧ (b 13 = true → G7 ≠ j8) ∧ (b 13 = true → j8 ≠ G7) ∧ (b 13 = true → G8 ≠ j8) ∧ (b 13 = true → j8 ≠ G8) ∧ (b 13 = true → G9 ≠ j8) ∧ (b 13 = true → j8 ≠ G9) ∧ (b 13 = true → H0 ≠ j8) ∧ (b 13 = true → j8 ≠ H0) ∧ (b 13 = true → j5 ≠ j8) ∧ (b 13 = true → j8 ≠ j5) ∧ (b 13 = true → j6 ≠ j8) ∧ (b 13 = true → j8 ≠ j6) ∧ (b 14 = true → w'.heap[j7]? = some (.cells #[.float .f64 m5, .float .f64 n0] 39 (0, 0))) ∧ (b 15 = true → w'.heap[j8]? = some (.cells #[.float .f64 o3, .float .f64 o5] 39 (0, 0))) ∧ (b 1 = true → (D0 : Value) = .agg #[.float .f64 s1, .float .f64 s2]) ∧ (b 3 = true → (D1 : Value) = .agg #[.float .f64 s3, .float .f64 s4]) ∧ (b 5 = true → (D2 : Value) = .agg #[.float .f64 s5, .float .f64 s6]) ∧ (b 7 = true → (D3 : Value) = .agg #[.float .f64 s7, .float .f64 s8]) ∧ (b 8 = true → (D4 : Value) = .tuple #[.agg #[.float .f64 m5, .float .f64 n0], .agg #[.float .f64 o3, .float .f64 o5]]) ∧ (b 9 = true → (A1 : Value) = .tuple #[.agg #[.float .f64 m5, .float .f64 n0], .agg #[.float .f64 o3, .float .f64 o5]]) ∧ (b 10 = true → (t1 : Value) = .agg #[.float .f64 m5, .float .f64 n0]) ∧ (b 11 = true → (t2 : Value) = .agg #[.float .f64 o3, .float .f64 o5]) ∧ (b 12 = true → (t3 : Value) = .pointer (some ⟨j7, 0, none⟩)) ∧ (b 13 = true → (t4 : Value) = .pointer (some ⟨j8, 0, none⟩))) HT_.out HW_.out (by kernel_rfl) (by kernel_rfl) ?_ ?_ ?_
 ·exact ⟨0, 0, 0, 0, 0, 0, 0, 0, 0, 0, 0, 0, 0, 0, .bool false, .bool false, .bool false, .bool false, .bool false, .bool false, .bool false, .bool false, .bool false, .bool false, by simp only [putSel, Bool.false_eq_true, if_false], b3.out, b5.out, b6.out, b7.out, j9.out, l4.out, HB.out, fun h_ => absurd h_ (by decide), fun h_ => absurd h_ (by decide), fun h_ => absurd h_ (by decide), fun h_ => absurd h_ (by decide), fun h_ => absurd h_ (by decide), fun h_ => absurd h_ (by decide), fun h_ => absurd h_ (by decide), fun h_ => absurd h_ (by decide), fun h_ => absurd h_ (by decide), fun h_ => absurd h_ (by decide), fun h_ => absurd h_ (by decide), fun h_ => absurd h_ (by decide), fun h_ => absurd h_ (by decide), fun h_ => absurd h_ (by decide), fun h_ => absurd h_ (by decide), fun h_ => absurd h_ (by decide), fun h_ => absurd h_ (by decide), fun h_ => absurd h_ (by decide), fun h_ => absurd h_ (by decide), fun h_ => absurd h_ (by decide), fun h_ => absurd h_ (by decide), fun h_ => absurd h_ (by decide), fun h_ => absurd h_ (by decide), fun h_ => absurd h_ (by decide), fun h_ => absurd h_ (by decide), fun h_ => absurd h_ (by decide), fun h_ => absurd h_ (by decide), fun h_ => absurd h_ (by decide), fun h_ => absurd h_ (by decide), fun h_ => absurd h_ (by decide), fun h_ => absurd h_ (by decide), fun h_ => absurd h_ (by decide), fun h_ => absurd h_ (by decide), fun h_ => absurd h_ (by decide), fun h_ => absurd h_ (by decide), fun h_ => absurd h_ (by decide), fun h_ => absurd h_ (by decide), fun h_ => absurd h_ (by decide), fun h_ => absurd h_ (by decide), fun h_ => absurd h_ (by decide), fun h_ => absurd h_ (by decide), fun h_ => absurd h_ (by decide), fun h_ => absurd h_ (by decide), fun h_ => absurd h_ (by decide), fun h_ => absurd h_ (by decide), fun h_ => absurd h_ (by decide), fun h_ => absurd h_ (by decide), fun h_ => absurd h_ (by decide), fun h_ => absurd h_ (by decide), fun h_ => absurd h_ (by decide), fun h_ => absurd h_ (by decide), fun h_ => absurd h_ (by decide), fun h_ => absurd h_ (by decide), fun h_ => absurd h_ (by decide), fun h_ => absurd h_ (by decide), fun h_ => absurd h_ (by decide)⟩
 ·skip
  clear b3 b5 b6 b7 j9 l4 HB
  refine steps_cons ?_ ?_
  ·rintro b a w' h_ hb_ hon hoff; (iterate 24 (refine Exists.elim h_ ?_; clear h_; intro _ h_)); (iterate 63 (refine And.elim ?_ h_; clear h_; intro _ h_)); rename_i s1 s2 s3 s4 s5 s6 s7 s8 m5 n0 o3 o5 j7 j8 D0 D1 D2 D3 D4 A1 t1 t2 t3 t4 ha a8 a9 b0 b1 b4 b2 Q_HB j1 j2 l2 l3 l7 l8 m1 m2 m8 m9 n8 n9 o0 o1 p7 p8 p9 d4 d5 d6 d7 d8 d9 g0 g1 g2 g3 g4 g5 p1 q0 q1 g6 g7 g8 g9 h0 h1 h2 h3 h4 h5 h6 h7 n2 o9 o4 p0 p2 q2 s9 t0 o6 o7 j3; have j4 := h_; clear h_
   refine ⟨_, rfl, fun K hK => ?_⟩
   have e4 : a.tmps[4]? = some (.pointer (some ⟨G7, 0, none⟩)) := by rw [ha]; exact (putSel_off rfl).trans rfl
   replace ha := mk_ ha
   have b3 := mk_ a8; have b5 := mk_ a9; have b6 := mk_ b0; have b7 := mk_ b1; have j9 := mk_ b4; have l4 := mk_ b2; have HB := mk_ Q_HB
   have hc0_ : w'.cell? ⟨G7, 0, none⟩ = some (.float .f64 b_a0_0) := bc0_ b3
   have hc1_ : w'.cell? ⟨G7, 1, none⟩ = some (.float .f64 b_a0_1) := bc1_ b3
   refine value_ (w1 := w') (v := .agg #[.float .f64 b_a0_0, .float .f64 b_a0_1]) (by rfl) rfl ?_ ?_
   ·go_simp
    (try simp only [i64_w])
    try rfl
   refine hK.out _ _ ⟨s1, s2, s3, s4, s5, s6, s7, s8, m5, n0, o3, o5, j7, j8, D0, D1, D2, D3, D4, A1, t1, t2, t3, t4, (by rw [ha.out]; exact putSel_upk 0 hb_ rfl rfl rfl), a8, a9, b0, b1, b4, b2, Q_HB, j1, j2, of_ (hoff 1 (by kernel_rfl)), of_ (hoff 1 (by kernel_rfl)), of_ (hoff 3 (by kernel_rfl)), of_ (hoff 3 (by kernel_rfl)), of_ (hoff 5 (by kernel_rfl)), of_ (hoff 5 (by kernel_rfl)), of_ (hoff 7 (by kernel_rfl)), of_ (hoff 7 (by kernel_rfl)), of_ (hoff 8 (by kernel_rfl)), of_ (hoff 8 (by kernel_rfl)), of_ (hoff 8 (by kernel_rfl)), of_ (hoff 8 (by kernel_rfl)), p7, p8, p9, d4, d5, d6, d7, d8, d9, g0, g1, g2, g3, g4, g5, p1, q0, q1, g6, g7, g8, g9, h0, h1, h2, h3, h4, h5, h6, h7, of_ (hoff 14 (by kernel_rfl)), of_ (hoff 15 (by kernel_rfl)), of_ (hoff 1 (by kernel_rfl)), of_ (hoff 3 (by kernel_rfl)), of_ (hoff 5 (by kernel_rfl)), of_ (hoff 7 (by kernel_rfl)), of_ (hoff 8 (by kernel_rfl)), of_ (hoff 9 (by kernel_rfl)), of_ (hoff 10 (by kernel_rfl)), of_ (hoff 11 (by kernel_rfl)), j3, j4⟩
  refine steps_cons ?_ ?_
  ·rintro b a w' h_ hb_ hon hoff; (iterate 24 (refine Exists.elim h_ ?_; clear h_; intro _ h_)); (iterate 63 (refine And.elim ?_ h_; clear h_; intro _ h_)); rename_i s1 s2 s3 s4 s5 s6 s7 s8 m5 n0 o3 o5 j7 j8 D0 D1 D2 D3 D4 A1 t1 t2 t3 t4 ha a8 a9 b0 b1 b4 b2 Q_HB j1 j2 l2 l3 l7 l8 m1 m2 m8 m9 n8 n9 o0 o1 p7 p8 p9 d4 d5 d6 d7 d8 d9 g0 g1 g2 g3 g4 g5 p1 q0 q1 g6 g7 g8 g9 h0 h1 h2 h3 h4 h5 h6 h7 n2 o9 o4 p0 p2 q2 s9 t0 o6 o7 j3; have j4 := h_; clear h_
   refine ⟨_, rfl, fun K hK => ?_⟩
   have e26 : a.tmps[26]? = some (.agg #[.float .f64 b_a0_0, .float .f64 b_a0_1]) := by rw [ha]; exact putSel_on (e := (0, 26, .agg #[.float .f64 b_a0_0, .float .f64 b_a0_1])) 0 rfl rfl (hon 0 (by kernel_rfl)) rfl
   replace ha := mk_ ha
   have b3 := mk_ a8; have b5 := mk_ a9; have b6 := mk_ b0; have b7 := mk_ b1; have j9 := mk_ b4; have l4 := mk_ b2; have HB := mk_ Q_HB
   refine goes_ Try.func20 (by kernel_rfl) rfl #[.agg #[.float .f64 b_a0_0, .float .f64 b_a0_1]] (by rfl) rfl rfl (by first | (simp only [List.map_toArray, List.map_cons, List.map_nil, Act.eval, Array.getD_eq_getD_getElem?, Option.getD_some, e26]; done) | (simp only [List.map_toArray, List.map_cons, List.map_nil, Act.eval, Array.getD_eq_getD_getElem?, Option.getD_some, e26]; rfl)) ?_
   with_reducible refine (laws_toCx.calls b_a0_0 a0_0 b_a0_1 a0_1 V1 V2 _ ?A2 ?A3 A10.out).mono ?_
   (case A2 => exact hF_a0_0)
   (case A3 => exact hF_a0_1)
   rintro e W9 ⟨s1, s2, rfl, y9, A0, hb⟩
   refine ⟨_, rfl, ?_⟩
   have H9 := bk_ b3 hb
   have I0 := bk_ b5 hb
   have I1 := bk_ b6 hb
   have I2 := bk_ b7 hb
   have I3 := bk_ j9 hb
   have J7 := bk_ l4 hb
   have J8 := hk_ HB hb
   have G3 := fun (F9 : b 12 = true) (D5 : b 14 = false) => (show W9.heap[j7]? = some (.cells #[.float .f64 0, .float .f64 0] 39 (0, 0)) from by first | exact (blk_below (g := j7) (o := .cells #[.float .f64 0, .float .f64 0] 39 (0, 0)) (by (with_reducible repeat (first | refine blk_drewN ?_ _ | refine blk_drew ?_ | refine blk_alloc ?_ _)); exact (p7 F9 D5)) hb))
   have G4 := fun (F9 : b 13 = true) (D5 : b 15 = false) => (show W9.heap[j8]? = some (.cells #[.float .f64 0, .float .f64 0] 39 (0, 0)) from by first | exact (blk_below (g := j8) (o := .cells #[.float .f64 0, .float .f64 0] 39 (0, 0)) (by (with_reducible repeat (first | refine blk_drewN ?_ _ | refine blk_drew ?_ | refine blk_alloc ?_ _)); exact (p1 F9 D5)) hb))
   clear b3; clear b5; clear b6; clear b7; clear j9; clear l4; clear HB
   have b3 := H9
   have b5 := I0
   have b6 := I1
   have b7 := I2
   have j9 := I3
   have l4 := J7
   have HB := J8
   clear H9 I0 I1 I2 I3 J7 J8; (try clear hb); (try clear O8); (try clear hk); (try clear hi)
   refine hK.out _ _ ⟨s1, s2, s3, s4, s5, s6, s7, s8, m5, n0, o3, o5, j7, j8, (.agg #[.float .f64 s1, .float .f64 s2]), D1, D2, D3, D4, A1, t1, t2, t3, t4, (by rw [ha.out]; exact putSel_upk 1 hb_ rfl rfl rfl), (bx_ b3), (bx_ b5), (bx_ b6), (bx_ b7), (bx_ j9), (bx_ l4), (hw_ HB), j1, j2, fun _ => y9, fun _ => A0, of_ (hoff 3 (by kernel_rfl)), of_ (hoff 3 (by kernel_rfl)), of_ (hoff 5 (by kernel_rfl)), of_ (hoff 5 (by kernel_rfl)), of_ (hoff 7 (by kernel_rfl)), of_ (hoff 7 (by kernel_rfl)), of_ (hoff 8 (by kernel_rfl)), of_ (hoff 8 (by kernel_rfl)), of_ (hoff 8 (by kernel_rfl)), of_ (hoff 8 (by kernel_rfl)), G3, p8, p9, d4, d5, d6, d7, d8, d9, g0, g1, g2, g3, g4, g5, G4, q0, q1, g6, g7, g8, g9, h0, h1, h2, h3, h4, h5, h6, h7, of_ (hoff 14 (by kernel_rfl)), of_ (hoff 15 (by kernel_rfl)), fun _ => rfl, of_ (hoff 3 (by kernel_rfl)), of_ (hoff 5 (by kernel_rfl)), of_ (hoff 7 (by kernel_rfl)), of_ (hoff 8 (by kernel_rfl)), of_ (hoff 9 (by kernel_rfl)), of_ (hoff 10 (by kernel_rfl)), of_ (hoff 11 (by kernel_rfl)), j3, j4⟩
  refine steps_cons ?_ ?_
  ·rintro b a w' h_ hb_ hon hoff; (iterate 24 (refine Exists.elim h_ ?_; clear h_; intro _ h_)); (iterate 63 (refine And.elim ?_ h_; clear h_; intro _ h_)); rename_i s1 s2 s3 s4 s5 s6 s7 s8 m5 n0 o3 o5 j7 j8 D0 D1 D2 D3 D4 A1 t1 t2 t3 t4 ha a8 a9 b0 b1 b4 b2 Q_HB j1 j2 l2 l3 l7 l8 m1 m2 m8 m9 n8 n9 o0 o1 p7 p8 p9 d4 d5 d6 d7 d8 d9 g0 g1 g2 g3 g4 g5 p1 q0 q1 g6 g7 g8 g9 h0 h1 h2 h3 h4 h5 h6 h7 n2 o9 o4 p0 p2 q2 s9 t0 o6 o7 j3; have j4 := h_; clear h_
   refine ⟨_, rfl, fun K hK => ?_⟩
   have e5 : a.tmps[5]? = some (.pointer (some ⟨G8, 0, none⟩)) := by rw [ha]; exact (putSel_off rfl).trans rfl
   replace ha := mk_ ha
   have b3 := mk_ a8; have b5 := mk_ a9; have b6 := mk_ b0; have b7 := mk_ b1; have j9 := mk_ b4; have l4 := mk_ b2; have HB := mk_ Q_HB
   have hc0_ : w'.cell? ⟨G8, 0, none⟩ = some (.float .f64 b_a1_0) := bc0_ b5
   have hc1_ : w'.cell? ⟨G8, 1, none⟩ = some (.float .f64 b_a1_1) := bc1_ b5
   refine value_ (w1 := w') (v := .agg #[.float .f64 b_a1_0, .float .f64 b_a1_1]) (by rfl) rfl ?_ ?_
   ·go_simp
    (try simp only [i64_w])
    try rfl
   refine hK.out _ _ ⟨s1, s2, s3, s4, s5, s6, s7, s8, m5, n0, o3, o5, j7, j8, D0, D1, D2, D3, D4, A1, t1, t2, t3, t4, (by rw [ha.out]; exact putSel_upk 2 hb_ rfl rfl rfl), a8, a9, b0, b1, b4, b2, Q_HB, j1, j2, l2, l3, of_ (hoff 3 (by kernel_rfl)), of_ (hoff 3 (by kernel_rfl)), of_ (hoff 5 (by kernel_rfl)), of_ (hoff 5 (by kernel_rfl)), of_ (hoff 7 (by kernel_rfl)), of_ (hoff 7 (by kernel_rfl)), of_ (hoff 8 (by kernel_rfl)), of_ (hoff 8 (by kernel_rfl)), of_ (hoff 8 (by kernel_rfl)), of_ (hoff 8 (by kernel_rfl)), p7, p8, p9, d4, d5, d6, d7, d8, d9, g0, g1, g2, g3, g4, g5, p1, q0, q1, g6, g7, g8, g9, h0, h1, h2, h3, h4, h5, h6, h7, of_ (hoff 14 (by kernel_rfl)), of_ (hoff 15 (by kernel_rfl)), o4, of_ (hoff 3 (by kernel_rfl)), of_ (hoff 5 (by kernel_rfl)), of_ (hoff 7 (by kernel_rfl)), of_ (hoff 8 (by kernel_rfl)), of_ (hoff 9 (by kernel_rfl)), of_ (hoff 10 (by kernel_rfl)), of_ (hoff 11 (by kernel_rfl)), j3, j4⟩
  refine steps_cons ?_ ?_
  ·rintro b a w' h_ hb_ hon hoff; (iterate 24 (refine Exists.elim h_ ?_; clear h_; intro _ h_)); (iterate 63 (refine And.elim ?_ h_; clear h_; intro _ h_)); rename_i s1 s2 s3 s4 s5 s6 s7 s8 m5 n0 o3 o5 j7 j8 D0 D1 D2 D3 D4 A1 t1 t2 t3 t4 ha a8 a9 b0 b1 b4 b2 Q_HB j1 j2 l2 l3 l7 l8 m1 m2 m8 m9 n8 n9 o0 o1 p7 p8 p9 d4 d5 d6 d7 d8 d9 g0 g1 g2 g3 g4 g5 p1 q0 q1 g6 g7 g8 g9 h0 h1 h2 h3 h4 h5 h6 h7 n2 o9 o4 p0 p2 q2 s9 t0 o6 o7 j3; have j4 := h_; clear h_
   refine ⟨_, rfl, fun K hK => ?_⟩
   have e28 : a.tmps[28]? = some (.agg #[.float .f64 b_a1_0, .float .f64 b_a1_1]) := by rw [ha]; exact putSel_on (e := (2, 28, .agg #[.float .f64 b_a1_0, .float .f64 b_a1_1])) 2 rfl rfl (hon 2 (by kernel_rfl)) rfl
   replace ha := mk_ ha
   have b3 := mk_ a8; have b5 := mk_ a9; have b6 := mk_ b0; have b7 := mk_ b1; have j9 := mk_ b4; have l4 := mk_ b2; have HB := mk_ Q_HB; have HF_t194 := mk_ (l2 (hon 1 (by kernel_rfl))); have HF_t195 := mk_ (l3 (hon 1 (by kernel_rfl))); have y9 := HF_t194.out; have A0 := HF_t195.out
   refine goes_ Try.func20 (by kernel_rfl) rfl #[.agg #[.float .f64 b_a1_0, .float .f64 b_a1_1]] (by rfl) rfl rfl (by first | (simp only [List.map_toArray, List.map_cons, List.map_nil, Act.eval, Array.getD_eq_getD_getElem?, Option.getD_some, e28]; done) | (simp only [List.map_toArray, List.map_cons, List.map_nil, Act.eval, Array.getD_eq_getD_getElem?, Option.getD_some, e28]; rfl)) ?_
   with_reducible refine (laws_toCx.calls b_a1_0 a1_0 b_a1_1 a1_1 V3 V4 _ ?A2 ?A3 A11.out).mono ?_
   (case A2 => exact hF_a1_0)
   (case A3 => exact hF_a1_1)
   rintro e w36 ⟨s3, s4, rfl, D9, E0, hb⟩
   refine ⟨_, rfl, ?_⟩
   have H9 := bk_ b3 hb
   have I0 := bk_ b5 hb
   have I1 := bk_ b6 hb
   have I2 := bk_ b7 hb
   have I3 := bk_ j9 hb
   have J7 := bk_ l4 hb
   have J8 := hk_ HB hb
   have G3 := fun (F9 : b 12 = true) (D5 : b 14 = false) => (show w36.heap[j7]? = some (.cells #[.float .f64 0, .float .f64 0] 39 (0, 0)) from by first | exact (blk_below (g := j7) (o := .cells #[.float .f64 0, .float .f64 0] 39 (0, 0)) (by (with_reducible repeat (first | refine blk_drewN ?_ _ | refine blk_drew ?_ | refine blk_alloc ?_ _)); exact (p7 F9 D5)) hb))
   have G4 := fun (F9 : b 13 = true) (D5 : b 15 = false) => (show w36.heap[j8]? = some (.cells #[.float .f64 0, .float .f64 0] 39 (0, 0)) from by first | exact (blk_below (g := j8) (o := .cells #[.float .f64 0, .float .f64 0] 39 (0, 0)) (by (with_reducible repeat (first | refine blk_drewN ?_ _ | refine blk_drew ?_ | refine blk_alloc ?_ _)); exact (p1 F9 D5)) hb))
   clear b3; clear b5; clear b6; clear b7; clear j9; clear l4; clear HB
   have b3 := H9
   have b5 := I0
   have b6 := I1
   have b7 := I2
   have j9 := I3
   have l4 := J7
   have HB := J8
   clear H9 I0 I1 I2 I3 J7 J8; (try clear hb); (try clear O8); (try clear hk); (try clear hi)
   refine hK.out _ _ ⟨s1, s2, s3, s4, s5, s6, s7, s8, m5, n0, o3, o5, j7, j8, D0, (.agg #[.float .f64 s3, .float .f64 s4]), D2, D3, D4, A1, t1, t2, t3, t4, (by rw [ha.out]; exact putSel_upk 3 hb_ rfl rfl rfl), (bx_ b3), (bx_ b5), (bx_ b6), (bx_ b7), (bx_ j9), (bx_ l4), (hw_ HB), j1, j2, fun _ => y9, fun _ => A0, fun _ => D9, fun _ => E0, of_ (hoff 5 (by kernel_rfl)), of_ (hoff 5 (by kernel_rfl)), of_ (hoff 7 (by kernel_rfl)), of_ (hoff 7 (by kernel_rfl)), of_ (hoff 8 (by kernel_rfl)), of_ (hoff 8 (by kernel_rfl)), of_ (hoff 8 (by kernel_rfl)), of_ (hoff 8 (by kernel_rfl)), G3, p8, p9, d4, d5, d6, d7, d8, d9, g0, g1, g2, g3, g4, g5, G4, q0, q1, g6, g7, g8, g9, h0, h1, h2, h3, h4, h5, h6, h7, of_ (hoff 14 (by kernel_rfl)), of_ (hoff 15 (by kernel_rfl)), o4, fun _ => rfl, of_ (hoff 5 (by kernel_rfl)), of_ (hoff 7 (by kernel_rfl)), of_ (hoff 8 (by kernel_rfl)), of_ (hoff 9 (by kernel_rfl)), of_ (hoff 10 (by kernel_rfl)), of_ (hoff 11 (by kernel_rfl)), j3, j4⟩
  refine steps_cons ?_ ?_
  ·rintro b a w' h_ hb_ hon hoff; (iterate 24 (refine Exists.elim h_ ?_; clear h_; intro _ h_)); (iterate 63 (refine And.elim ?_ h_; clear h_; intro _ h_)); rename_i s1 s2 s3 s4 s5 s6 s7 s8 m5 n0 o3 o5 j7 j8 D0 D1 D2 D3 D4 A1 t1 t2 t3 t4 ha a8 a9 b0 b1 b4 b2 Q_HB j1 j2 l2 l3 l7 l8 m1 m2 m8 m9 n8 n9 o0 o1 p7 p8 p9 d4 d5 d6 d7 d8 d9 g0 g1 g2 g3 g4 g5 p1 q0 q1 g6 g7 g8 g9 h0 h1 h2 h3 h4 h5 h6 h7 n2 o9 o4 p0 p2 q2 s9 t0 o6 o7 j3; have j4 := h_; clear h_
   refine ⟨_, rfl, fun K hK => ?_⟩
   have e6 : a.tmps[6]? = some (.pointer (some ⟨G9, 0, none⟩)) := by rw [ha]; exact (putSel_off rfl).trans rfl
   replace ha := mk_ ha
   have b3 := mk_ a8; have b5 := mk_ a9; have b6 := mk_ b0; have b7 := mk_ b1; have j9 := mk_ b4; have l4 := mk_ b2; have HB := mk_ Q_HB
   have hc0_ : w'.cell? ⟨G9, 0, none⟩ = some (.float .f64 b_a2_0) := bc0_ b6
   have hc1_ : w'.cell? ⟨G9, 1, none⟩ = some (.float .f64 b_a2_1) := bc1_ b6
   refine value_ (w1 := w') (v := .agg #[.float .f64 b_a2_0, .float .f64 b_a2_1]) (by rfl) rfl ?_ ?_
   ·go_simp
    (try simp only [i64_w])
    try rfl
   refine hK.out _ _ ⟨s1, s2, s3, s4, s5, s6, s7, s8, m5, n0, o3, o5, j7, j8, D0, D1, D2, D3, D4, A1, t1, t2, t3, t4, (by rw [ha.out]; exact putSel_upk 4 hb_ rfl rfl rfl), a8, a9, b0, b1, b4, b2, Q_HB, j1, j2, l2, l3, l7, l8, of_ (hoff 5 (by kernel_rfl)), of_ (hoff 5 (by kernel_rfl)), of_ (hoff 7 (by kernel_rfl)), of_ (hoff 7 (by kernel_rfl)), of_ (hoff 8 (by kernel_rfl)), of_ (hoff 8 (by kernel_rfl)), of_ (hoff 8 (by kernel_rfl)), of_ (hoff 8 (by kernel_rfl)), p7, p8, p9, d4, d5, d6, d7, d8, d9, g0, g1, g2, g3, g4, g5, p1, q0, q1, g6, g7, g8, g9, h0, h1, h2, h3, h4, h5, h6, h7, of_ (hoff 14 (by kernel_rfl)), of_ (hoff 15 (by kernel_rfl)), o4, p0, of_ (hoff 5 (by kernel_rfl)), of_ (hoff 7 (by kernel_rfl)), of_ (hoff 8 (by kernel_rfl)), of_ (hoff 9 (by kernel_rfl)), of_ (hoff 10 (by kernel_rfl)), of_ (hoff 11 (by kernel_rfl)), j3, j4⟩
  refine steps_cons ?_ ?_
  ·rintro b a w' h_ hb_ hon hoff; (iterate 24 (refine Exists.elim h_ ?_; clear h_; intro _ h_)); (iterate 63 (refine And.elim ?_ h_; clear h_; intro _ h_)); rename_i s1 s2 s3 s4 s5 s6 s7 s8 m5 n0 o3 o5 j7 j8 D0 D1 D2 D3 D4 A1 t1 t2 t3 t4 ha a8 a9 b0 b1 b4 b2 Q_HB j1 j2 l2 l3 l7 l8 m1 m2 m8 m9 n8 n9 o0 o1 p7 p8 p9 d4 d5 d6 d7 d8 d9 g0 g1 g2 g3 g4 g5 p1 q0 q1 g6 g7 g8 g9 h0 h1 h2 h3 h4 h5 h6 h7 n2 o9 o4 p0 p2 q2 s9 t0 o6 o7 j3; have j4 := h_; clear h_
   refine ⟨_, rfl, fun K hK => ?_⟩
   have e30 : a.tmps[30]? = some (.agg #[.float .f64 b_a2_0, .float .f64 b_a2_1]) := by rw [ha]; exact putSel_on (e := (4, 30, .agg #[.float .f64 b_a2_0, .float .f64 b_a2_1])) 4 rfl rfl (hon 4 (by kernel_rfl)) rfl
   replace ha := mk_ ha
   have b3 := mk_ a8; have b5 := mk_ a9; have b6 := mk_ b0; have b7 := mk_ b1; have j9 := mk_ b4; have l4 := mk_ b2; have HB := mk_ Q_HB; have HF_t194 := mk_ (l2 (hon 1 (by kernel_rfl))); have HF_t195 := mk_ (l3 (hon 1 (by kernel_rfl))); have HF_t196 := mk_ (l7 (hon 3 (by kernel_rfl))); have HF_t197 := mk_ (l8 (hon 3 (by kernel_rfl))); have y9 := HF_t194.out; have A0 := HF_t195.out; have D9 := HF_t196.out; have E0 := HF_t197.out
   refine goes_ Try.func20 (by kernel_rfl) rfl #[.agg #[.float .f64 b_a2_0, .float .f64 b_a2_1]] (by rfl) rfl rfl (by first | (simp only [List.map_toArray, List.map_cons, List.map_nil, Act.eval, Array.getD_eq_getD_getElem?, Option.getD_some, e30]; done) | (simp only [List.map_toArray, List.map_cons, List.map_nil, Act.eval, Array.getD_eq_getD_getElem?, Option.getD_some, e30]; rfl)) ?_
   with_reducible refine (laws_toCx.calls b_a2_0 a2_0 b_a2_1 a2_1 V5 V6 _ ?A2 ?A3 A12.out).mono ?_
   (case A2 => exact hF_a2_0)
   (case A3 => exact hF_a2_1)
   rintro e w37 ⟨s5, s6, rfl, G5, G6, hb⟩
   refine ⟨_, rfl, ?_⟩
   have H9 := bk_ b3 hb
   have I0 := bk_ b5 hb
   have I1 := bk_ b6 hb
   have I2 := bk_ b7 hb
   have I3 := bk_ j9 hb
   have J7 := bk_ l4 hb
   have J8 := hk_ HB hb
   have G3 := fun (F9 : b 12 = true) (D5 : b 14 = false) => (show w37.heap[j7]? = some (.cells #[.float .f64 0, .float .f64 0] 39 (0, 0)) from by first | exact (blk_below (g := j7) (o := .cells #[.float .f64 0, .float .f64 0] 39 (0, 0)) (by (with_reducible repeat (first | refine blk_drewN ?_ _ | refine blk_drew ?_ | refine blk_alloc ?_ _)); exact (p7 F9 D5)) hb))
   have G4 := fun (F9 : b 13 = true) (D5 : b 15 = false) => (show w37.heap[j8]? = some (.cells #[.float .f64 0, .float .f64 0] 39 (0, 0)) from by first | exact (blk_below (g := j8) (o := .cells #[.float .f64 0, .float .f64 0] 39 (0, 0)) (by (with_reducible repeat (first | refine blk_drewN ?_ _ | refine blk_drew ?_ | refine blk_alloc ?_ _)); exact (p1 F9 D5)) hb))
   clear b3; clear b5; clear b6; clear b7; clear j9; clear l4; clear HB
   have b3 := H9
   have b5 := I0
   have b6 := I1
   have b7 := I2
   have j9 := I3
   have l4 := J7
   have HB := J8
   clear H9 I0 I1 I2 I3 J7 J8; (try clear hb); (try clear O8); (try clear hk); (try clear hi)
   refine hK.out _ _ ⟨s1, s2, s3, s4, s5, s6, s7, s8, m5, n0, o3, o5, j7, j8, D0, D1, (.agg #[.float .f64 s5, .float .f64 s6]), D3, D4, A1, t1, t2, t3, t4, (by rw [ha.out]; exact putSel_upk 5 hb_ rfl rfl rfl), (bx_ b3), (bx_ b5), (bx_ b6), (bx_ b7), (bx_ j9), (bx_ l4), (hw_ HB), j1, j2, fun _ => y9, fun _ => A0, fun _ => D9, fun _ => E0, fun _ => G5, fun _ => G6, of_ (hoff 7 (by kernel_rfl)), of_ (hoff 7 (by kernel_rfl)), of_ (hoff 8 (by kernel_rfl)), of_ (hoff 8 (by kernel_rfl)), of_ (hoff 8 (by kernel_rfl)), of_ (hoff 8 (by kernel_rfl)), G3, p8, p9, d4, d5, d6, d7, d8, d9, g0, g1, g2, g3, g4, g5, G4, q0, q1, g6, g7, g8, g9, h0, h1, h2, h3, h4, h5, h6, h7, of_ (hoff 14 (by kernel_rfl)), of_ (hoff 15 (by kernel_rfl)), o4, p0, fun _ => rfl, of_ (hoff 7 (by kernel_rfl)), of_ (hoff 8 (by kernel_rfl)), of_ (hoff 9 (by kernel_rfl)), of_ (hoff 10 (by kernel_rfl)), of_ (hoff 11 (by kernel_rfl)), j3, j4⟩
  refine steps_cons ?_ ?_
  ·rintro b a w' h_ hb_ hon hoff; (iterate 24 (refine Exists.elim h_ ?_; clear h_; intro _ h_)); (iterate 63 (refine And.elim ?_ h_; clear h_; intro _ h_)); rename_i s1 s2 s3 s4 s5 s6 s7 s8 m5 n0 o3 o5 j7 j8 D0 D1 D2 D3 D4 A1 t1 t2 t3 t4 ha a8 a9 b0 b1 b4 b2 Q_HB j1 j2 l2 l3 l7 l8 m1 m2 m8 m9 n8 n9 o0 o1 p7 p8 p9 d4 d5 d6 d7 d8 d9 g0 g1 g2 g3 g4 g5 p1 q0 q1 g6 g7 g8 g9 h0 h1 h2 h3 h4 h5 h6 h7 n2 o9 o4 p0 p2 q2 s9 t0 o6 o7 j3; have j4 := h_; clear h_
   refine ⟨_, rfl, fun K hK => ?_⟩
   have e7 : a.tmps[7]? = some (.pointer (some ⟨H0, 0, none⟩)) := by rw [ha]; exact (putSel_off rfl).trans rfl
   replace ha := mk_ ha
   have b3 := mk_ a8; have b5 := mk_ a9; have b6 := mk_ b0; have b7 := mk_ b1; have j9 := mk_ b4; have l4 := mk_ b2; have HB := mk_ Q_HB
   have hc0_ : w'.cell? ⟨H0, 0, none⟩ = some (.float .f64 b_a3_0) := bc0_ b7
   have hc1_ : w'.cell? ⟨H0, 1, none⟩ = some (.float .f64 b_a3_1) := bc1_ b7
   refine value_ (w1 := w') (v := .agg #[.float .f64 b_a3_0, .float .f64 b_a3_1]) (by rfl) rfl ?_ ?_
   ·go_simp
    (try simp only [i64_w])
    try rfl
   refine hK.out _ _ ⟨s1, s2, s3, s4, s5, s6, s7, s8, m5, n0, o3, o5, j7, j8, D0, D1, D2, D3, D4, A1, t1, t2, t3, t4, (by rw [ha.out]; exact putSel_upk 6 hb_ rfl rfl rfl), a8, a9, b0, b1, b4, b2, Q_HB, j1, j2, l2, l3, l7, l8, m1, m2, of_ (hoff 7 (by kernel_rfl)), of_ (hoff 7 (by kernel_rfl)), of_ (hoff 8 (by kernel_rfl)), of_ (hoff 8 (by kernel_rfl)), of_ (hoff 8 (by kernel_rfl)), of_ (hoff 8 (by kernel_rfl)), p7, p8, p9, d4, d5, d6, d7, d8, d9, g0, g1, g2, g3, g4, g5, p1, q0, q1, g6, g7, g8, g9, h0, h1, h2, h3, h4, h5, h6, h7, of_ (hoff 14 (by kernel_rfl)), of_ (hoff 15 (by kernel_rfl)), o4, p0, p2, of_ (hoff 7 (by kernel_rfl)), of_ (hoff 8 (by kernel_rfl)), of_ (hoff 9 (by kernel_rfl)), of_ (hoff 10 (by kernel_rfl)), of_ (hoff 11 (by kernel_rfl)), j3, j4⟩
  refine steps_cons ?_ ?_
  ·rintro b a w' h_ hb_ hon hoff; (iterate 24 (refine Exists.elim h_ ?_; clear h_; intro _ h_)); (iterate 63 (refine And.elim ?_ h_; clear h_; intro _ h_)); rename_i s1 s2 s3 s4 s5 s6 s7 s8 m5 n0 o3 o5 j7 j8 D0 D1 D2 D3 D4 A1 t1 t2 t3 t4 ha a8 a9 b0 b1 b4 b2 Q_HB j1 j2 l2 l3 l7 l8 m1 m2 m8 m9 n8 n9 o0 o1 p7 p8 p9 d4 d5 d6 d7 d8 d9 g0 g1 g2 g3 g4 g5 p1 q0 q1 g6 g7 g8 g9 h0 h1 h2 h3 h4 h5 h6 h7 n2 o9 o4 p0 p2 q2 s9 t0 o6 o7 j3; have j4 := h_; clear h_
   refine ⟨_, rfl, fun K hK => ?_⟩
   have e32 : a.tmps[32]? = some (.agg #[.float .f64 b_a3_0, .float .f64 b_a3_1]) := by rw [ha]; exact putSel_on (e := (6, 32, .agg #[.float .f64 b_a3_0, .float .f64 b_a3_1])) 6 rfl rfl (hon 6 (by kernel_rfl)) rfl
   replace ha := mk_ ha
   have b3 := mk_ a8; have b5 := mk_ a9; have b6 := mk_ b0; have b7 := mk_ b1; have j9 := mk_ b4; have l4 := mk_ b2; have HB := mk_ Q_HB; have HF_t194 := mk_ (l2 (hon 1 (by kernel_rfl))); have HF_t195 := mk_ (l3 (hon 1 (by kernel_rfl))); have HF_t196 := mk_ (l7 (hon 3 (by kernel_rfl))); have HF_t197 := mk_ (l8 (hon 3 (by kernel_rfl))); have HF_t198 := mk_ (m1 (hon 5 (by kernel_rfl))); have HF_t199 := mk_ (m2 (hon 5 (by kernel_rfl))); have y9 := HF_t194.out; have A0 := HF_t195.out; have D9 := HF_t196.out; have E0 := HF_t197.out; have G5 := HF_t198.out; have G6 := HF_t199.out
   refine goes_ Try.func20 (by kernel_rfl) rfl #[.agg #[.float .f64 b_a3_0, .float .f64 b_a3_1]] (by rfl) rfl rfl (by first | (simp only [List.map_toArray, List.map_cons, List.map_nil, Act.eval, Array.getD_eq_getD_getElem?, Option.getD_some, e32]; done) | (simp only [List.map_toArray, List.map_cons, List.map_nil, Act.eval, Array.getD_eq_getD_getElem?, Option.getD_some, e32]; rfl)) ?_
   with_reducible refine (laws_toCx.calls b_a3_0 a3_0 b_a3_1 a3_1 V7 V8 _ ?A2 ?A3 A13.out).mono ?_
   (case A2 => exact hF_a3_0)
   (case A3 => exact hF_a3_1)
   rintro e w38 ⟨s7, s8, rfl, H3, H4, hb⟩
   refine ⟨_, rfl, ?_⟩
   have H9 := bk_ b3 hb
   have I0 := bk_ b5 hb
   have I1 := bk_ b6 hb
   have I2 := bk_ b7 hb
   have I3 := bk_ j9 hb
   have J7 := bk_ l4 hb
   have J8 := hk_ HB hb
   have G3 := fun (F9 : b 12 = true) (D5 : b 14 = false) => (show w38.heap[j7]? = some (.cells #[.float .f64 0, .float .f64 0] 39 (0, 0)) from by first | exact (blk_below (g := j7) (o := .cells #[.float .f64 0, .float .f64 0] 39 (0, 0)) (by (with_reducible repeat (first | refine blk_drewN ?_ _ | refine blk_drew ?_ | refine blk_alloc ?_ _)); exact (p7 F9 D5)) hb))
   have G4 := fun (F9 : b 13 = true) (D5 : b 15 = false) => (show w38.heap[j8]? = some (.cells #[.float .f64 0, .float .f64 0] 39 (0, 0)) from by first | exact (blk_below (g := j8) (o := .cells #[.float .f64 0, .float .f64 0] 39 (0, 0)) (by (with_reducible repeat (first | refine blk_drewN ?_ _ | refine blk_drew ?_ | refine blk_alloc ?_ _)); exact (p1 F9 D5)) hb))
   clear b3; clear b5; clear b6; clear b7; clear j9; clear l4; clear HB
   have b3 := H9
   have b5 := I0
   have b6 := I1
   have b7 := I2
   have j9 := I3
   have l4 := J7
   have HB := J8
   clear H9 I0 I1 I2 I3 J7 J8; (try clear hb); (try clear O8); (try clear hk); (try clear hi)
   refine hK.out _ _ ⟨s1, s2, s3, s4, s5, s6, s7, s8, m5, n0, o3, o5, j7, j8, D0, D1, D2, (.agg #[.float .f64 s7, .float .f64 s8]), D4, A1, t1, t2, t3, t4, (by rw [ha.out]; exact putSel_upk 7 hb_ rfl rfl rfl), (bx_ b3), (bx_ b5), (bx_ b6), (bx_ b7), (bx_ j9), (bx_ l4), (hw_ HB), j1, j2, fun _ => y9, fun _ => A0, fun _ => D9, fun _ => E0, fun _ => G5, fun _ => G6, fun _ => H3, fun _ => H4, of_ (hoff 8 (by kernel_rfl)), of_ (hoff 8 (by kernel_rfl)), of_ (hoff 8 (by kernel_rfl)), of_ (hoff 8 (by kernel_rfl)), G3, p8, p9, d4, d5, d6, d7, d8, d9, g0, g1, g2, g3, g4, g5, G4, q0, q1, g6, g7, g8, g9, h0, h1, h2, h3, h4, h5, h6, h7, of_ (hoff 14 (by kernel_rfl)), of_ (hoff 15 (by kernel_rfl)), o4, p0, p2, fun _ => rfl, of_ (hoff 8 (by kernel_rfl)), of_ (hoff 9 (by kernel_rfl)), of_ (hoff 10 (by kernel_rfl)), of_ (hoff 11 (by kernel_rfl)), j3, j4⟩
  refine steps_cons ?_ ?_
  ·rintro b a w' h_ hb_ hon hoff; (iterate 24 (refine Exists.elim h_ ?_; clear h_; intro _ h_)); (iterate 63 (refine And.elim ?_ h_; clear h_; intro _ h_)); rename_i s1 s2 s3 s4 s5 s6 s7 s8 m5 n0 o3 o5 j7 j8 D0 D1 D2 D3 D4 A1 t1 t2 t3 t4 ha a8 a9 b0 b1 b4 b2 Q_HB j1 j2 l2 l3 l7 l8 m1 m2 m8 m9 n8 n9 o0 o1 p7 p8 p9 d4 d5 d6 d7 d8 d9 g0 g1 g2 g3 g4 g5 p1 q0 q1 g6 g7 g8 g9 h0 h1 h2 h3 h4 h5 h6 h7 n2 o9 o4 p0 p2 q2 s9 t0 o6 o7 j3; have j4 := h_; clear h_
   refine ⟨_, rfl, fun K hK => ?_⟩
   have e27 : a.tmps[27]? = some (D0) := by rw [ha]; exact putSel_on (e := (1, 27, D0)) 1 rfl rfl (hon 1 (by kernel_rfl)) rfl
   rw [o4 (hon 1 (by kernel_rfl))] at e27
   have e29 : a.tmps[29]? = some (D1) := by rw [ha]; exact putSel_on (e := (3, 29, D1)) 3 rfl rfl (hon 3 (by kernel_rfl)) rfl
   rw [p0 (hon 3 (by kernel_rfl))] at e29
   have e31 : a.tmps[31]? = some (D2) := by rw [ha]; exact putSel_on (e := (5, 31, D2)) 5 rfl rfl (hon 5 (by kernel_rfl)) rfl
   rw [p2 (hon 5 (by kernel_rfl))] at e31
   have e33 : a.tmps[33]? = some (D3) := by rw [ha]; exact putSel_on (e := (7, 33, D3)) 7 rfl rfl (hon 7 (by kernel_rfl)) rfl
   rw [q2 (hon 7 (by kernel_rfl))] at e33
   replace ha := mk_ ha
   have b3 := mk_ a8; have b5 := mk_ a9; have b6 := mk_ b0; have b7 := mk_ b1; have j9 := mk_ b4; have l4 := mk_ b2; have HB := mk_ Q_HB; have HF_t194 := mk_ (l2 (hon 1 (by kernel_rfl))); have HF_t195 := mk_ (l3 (hon 1 (by kernel_rfl))); have HF_t196 := mk_ (l7 (hon 3 (by kernel_rfl))); have HF_t197 := mk_ (l8 (hon 3 (by kernel_rfl))); have HF_t198 := mk_ (m1 (hon 5 (by kernel_rfl))); have HF_t199 := mk_ (m2 (hon 5 (by kernel_rfl))); have HF_t200 := mk_ (m8 (hon 7 (by kernel_rfl))); have HF_t201 := mk_ (m9 (hon 7 (by kernel_rfl))); have y9 := HF_t194.out; have A0 := HF_t195.out; have D9 := HF_t196.out; have E0 := HF_t197.out; have G5 := HF_t198.out; have G6 := HF_t199.out; have H3 := HF_t200.out; have H4 := HF_t201.out
   refine goes_ Try.func21 (by kernel_rfl) rfl #[.agg #[.float .f64 s1, .float .f64 s2], .agg #[.float .f64 s3, .float .f64 s4], .agg #[.float .f64 s5, .float .f64 s6], .agg #[.float .f64 s7, .float .f64 s8]] (by rfl) rfl rfl (by first | (simp only [List.map_toArray, List.map_cons, List.map_nil, Act.eval, Array.getD_eq_getD_getElem?, Option.getD_some, e27, e29, e31, e33]; done) | (simp only [List.map_toArray, List.map_cons, List.map_nil, Act.eval, Array.getD_eq_getD_getElem?, Option.getD_some, e27, e29, e31, e33]; rfl)) ?_
   with_reducible refine (impl_Flutter.calls s1 V1 s2 V2 s3 V3 s4 V4 s5 V5 s6 V6 s7 V7 s8 V8 Q9 R0 V9 W0 _ ?A2 ?A3 ?J5 ?J6 ?P0 ?P1 ?P2 ?P3 A14.out).mono ?_
   (case A2 => exact y9)
   (case A3 => exact A0)
   (case J5 => exact D9)
   (case J6 => exact E0)
   (case P0 => exact G5)
   (case P1 => exact G6)
   (case P2 => exact H3)
   (case P3 => exact H4)
   rintro e w39 ⟨m5, n0, o3, o5, rfl, H7, H8, I6, I7, hb⟩
   refine ⟨_, rfl, ?_⟩
   have H9 := bk_ b3 hb
   have I0 := bk_ b5 hb
   have I1 := bk_ b6 hb
   have I2 := bk_ b7 hb
   have I3 := bk_ j9 hb
   have J7 := bk_ l4 hb
   have J8 := hk_ HB hb
   have G3 := fun (F9 : b 12 = true) (D5 : b 14 = false) => (show w39.heap[j7]? = some (.cells #[.float .f64 0, .float .f64 0] 39 (0, 0)) from by first | exact (blk_below (g := j7) (o := .cells #[.float .f64 0, .float .f64 0] 39 (0, 0)) (by (with_reducible repeat (first | refine blk_drewN ?_ _ | refine blk_drew ?_ | refine blk_alloc ?_ _)); exact (p7 F9 D5)) hb))
   have G4 := fun (F9 : b 13 = true) (D5 : b 15 = false) => (show w39.heap[j8]? = some (.cells #[.float .f64 0, .float .f64 0] 39 (0, 0)) from by first | exact (blk_below (g := j8) (o := .cells #[.float .f64 0, .float .f64 0] 39 (0, 0)) (by (with_reducible repeat (first | refine blk_drewN ?_ _ | refine blk_drew ?_ | refine blk_alloc ?_ _)); exact (p1 F9 D5)) hb))
   clear b3; clear b5; clear b6; clear b7; clear j9; clear l4; clear HB
   have b3 := H9
   have b5 := I0
   have b6 := I1
   have b7 := I2
   have j9 := I3
   have l4 := J7
   have HB := J8
   clear H9 I0 I1 I2 I3 J7 J8; (try clear hb); (try clear O8); (try clear hk); (try clear hi)
   refine hK.out _ _ ⟨s1, s2, s3, s4, s5, s6, s7, s8, m5, n0, o3, o5, j7, j8, D0, D1, D2, D3, (.tuple #[.agg #[.float .f64 m5, .float .f64 n0], .agg #[.float .f64 o3, .float .f64 o5]]), A1, t1, t2, t3, t4, (by rw [ha.out]; exact putSel_upk 8 hb_ rfl rfl rfl), (bx_ b3), (bx_ b5), (bx_ b6), (bx_ b7), (bx_ j9), (bx_ l4), (hw_ HB), j1, j2, fun _ => y9, fun _ => A0, fun _ => D9, fun _ => E0, fun _ => G5, fun _ => G6, fun _ => H3, fun _ => H4, fun _ => H7, fun _ => H8, fun _ => I6, fun _ => I7, G3, p8, p9, d4, d5, d6, d7, d8, d9, g0, g1, g2, g3, g4, g5, G4, q0, q1, g6, g7, g8, g9, h0, h1, h2, h3, h4, h5, h6, h7, of_ (hoff 14 (by kernel_rfl)), of_ (hoff 15 (by kernel_rfl)), o4, p0, p2, q2, fun _ => rfl, of_ (hoff 9 (by kernel_rfl)), of_ (hoff 10 (by kernel_rfl)), of_ (hoff 11 (by kernel_rfl)), j3, j4⟩
  refine steps_cons ?_ ?_
  ·rintro b a w' h_ hb_ hon hoff; (iterate 24 (refine Exists.elim h_ ?_; clear h_; intro _ h_)); (iterate 63 (refine And.elim ?_ h_; clear h_; intro _ h_)); rename_i s1 s2 s3 s4 s5 s6 s7 s8 m5 n0 o3 o5 j7 j8 D0 D1 D2 D3 D4 A1 t1 t2 t3 t4 ha a8 a9 b0 b1 b4 b2 Q_HB j1 j2 l2 l3 l7 l8 m1 m2 m8 m9 n8 n9 o0 o1 p7 p8 p9 d4 d5 d6 d7 d8 d9 g0 g1 g2 g3 g4 g5 p1 q0 q1 g6 g7 g8 g9 h0 h1 h2 h3 h4 h5 h6 h7 n2 o9 o4 p0 p2 q2 s9 t0 o6 o7 j3; have j4 := h_; clear h_
   refine ⟨_, rfl, fun K hK => ?_⟩
   have e34 : a.tmps[34]? = some (D4) := by rw [ha]; exact putSel_on (e := (8, 34, D4)) 8 rfl rfl (hon 8 (by kernel_rfl)) rfl
   rw [s9 (hon 8 (by kernel_rfl))] at e34
   replace ha := mk_ ha
   have b3 := mk_ a8; have b5 := mk_ a9; have b6 := mk_ b0; have b7 := mk_ b1; have j9 := mk_ b4; have l4 := mk_ b2; have HB := mk_ Q_HB; have HF_t194 := mk_ (l2 (hon 1 (by kernel_rfl))); have HF_t195 := mk_ (l3 (hon 1 (by kernel_rfl))); have HF_t196 := mk_ (l7 (hon 3 (by kernel_rfl))); have HF_t197 := mk_ (l8 (hon 3 (by kernel_rfl))); have HF_t198 := mk_ (m1 (hon 5 (by kernel_rfl))); have HF_t199 := mk_ (m2 (hon 5 (by kernel_rfl))); have HF_t200 := mk_ (m8 (hon 7 (by kernel_rfl))); have HF_t201 := mk_ (m9 (hon 7 (by kernel_rfl))); have HF_t202 := mk_ (n8 (hon 8 (by kernel_rfl))); have HF_t203 := mk_ (n9 (hon 8 (by kernel_rfl))); have HF_t204 := mk_ (o0 (hon 8 (by kernel_rfl))); have HF_t205 := mk_ (o1 (hon 8 (by kernel_rfl)))
   refine value_ (w1 := w') (v := .tuple #[.agg #[.float .f64 m5, .float .f64 n0], .agg #[.float .f64 o3, .float .f64 o5]]) (by rfl) rfl ?_ ?_
   ·go_simp
    (try simp only [i64_w])
    try rfl
   refine hK.out _ _ ⟨s1, s2, s3, s4, s5, s6, s7, s8, m5, n0, o3, o5, j7, j8, D0, D1, D2, D3, D4, (.tuple #[.agg #[.float .f64 m5, .float .f64 n0], .agg #[.float .f64 o3, .float .f64 o5]]), t1, t2, t3, t4, (by rw [ha.out]; exact putSel_upk 9 hb_ rfl rfl rfl), a8, a9, b0, b1, b4, b2, Q_HB, j1, j2, l2, l3, l7, l8, m1, m2, m8, m9, n8, n9, o0, o1, p7, p8, p9, d4, d5, d6, d7, d8, d9, g0, g1, g2, g3, g4, g5, p1, q0, q1, g6, g7, g8, g9, h0, h1, h2, h3, h4, h5, h6, h7, of_ (hoff 14 (by kernel_rfl)), of_ (hoff 15 (by kernel_rfl)), o4, p0, p2, q2, s9, fun _ => rfl, of_ (hoff 10 (by kernel_rfl)), of_ (hoff 11 (by kernel_rfl)), j3, j4⟩
  refine steps_cons ?_ ?_
  ·rintro b a w' h_ hb_ hon hoff; (iterate 24 (refine Exists.elim h_ ?_; clear h_; intro _ h_)); (iterate 63 (refine And.elim ?_ h_; clear h_; intro _ h_)); rename_i s1 s2 s3 s4 s5 s6 s7 s8 m5 n0 o3 o5 j7 j8 D0 D1 D2 D3 D4 A1 t1 t2 t3 t4 ha a8 a9 b0 b1 b4 b2 Q_HB j1 j2 l2 l3 l7 l8 m1 m2 m8 m9 n8 n9 o0 o1 p7 p8 p9 d4 d5 d6 d7 d8 d9 g0 g1 g2 g3 g4 g5 p1 q0 q1 g6 g7 g8 g9 h0 h1 h2 h3 h4 h5 h6 h7 n2 o9 o4 p0 p2 q2 s9 t0 o6 o7 j3; have j4 := h_; clear h_
   refine ⟨_, rfl, fun K hK => ?_⟩
   have e25 : a.tmps[25]? = some (A1) := by rw [ha]; exact putSel_on (e := (9, 25, A1)) 9 rfl rfl (hon 9 (by kernel_rfl)) rfl
   rw [t0 (hon 9 (by kernel_rfl))] at e25
   replace ha := mk_ ha
   have b3 := mk_ a8; have b5 := mk_ a9; have b6 := mk_ b0; have b7 := mk_ b1; have j9 := mk_ b4; have l4 := mk_ b2; have HB := mk_ Q_HB; have HF_t194 := mk_ (l2 (hon 1 (by kernel_rfl))); have HF_t195 := mk_ (l3 (hon 1 (by kernel_rfl))); have HF_t196 := mk_ (l7 (hon 3 (by kernel_rfl))); have HF_t197 := mk_ (l8 (hon 3 (by kernel_rfl))); have HF_t198 := mk_ (m1 (hon 5 (by kernel_rfl))); have HF_t199 := mk_ (m2 (hon 5 (by kernel_rfl))); have HF_t200 := mk_ (m8 (hon 7 (by kernel_rfl))); have HF_t201 := mk_ (m9 (hon 7 (by kernel_rfl))); have HF_t202 := mk_ (n8 (hon 8 (by kernel_rfl))); have HF_t203 := mk_ (n9 (hon 8 (by kernel_rfl))); have HF_t204 := mk_ (o0 (hon 8 (by kernel_rfl))); have HF_t205 := mk_ (o1 (hon 8 (by kernel_rfl)))
   refine value_ (w1 := w') (v := .agg #[.float .f64 m5, .float .f64 n0]) (by rfl) rfl ?_ ?_
   ·go_simp
    (try simp only [i64_w])
    try rfl
   refine hK.out _ _ ⟨s1, s2, s3, s4, s5, s6, s7, s8, m5, n0, o3, o5, j7, j8, D0, D1, D2, D3, D4, A1, (.agg #[.float .f64 m5, .float .f64 n0]), t2, t3, t4, (by rw [ha.out]; exact putSel_upk 10 hb_ rfl rfl rfl), a8, a9, b0, b1, b4, b2, Q_HB, j1, j2, l2, l3, l7, l8, m1, m2, m8, m9, n8, n9, o0, o1, p7, p8, p9, d4, d5, d6, d7, d8, d9, g0, g1, g2, g3, g4, g5, p1, q0, q1, g6, g7, g8, g9, h0, h1, h2, h3, h4, h5, h6, h7, of_ (hoff 14 (by kernel_rfl)), of_ (hoff 15 (by kernel_rfl)), o4, p0, p2, q2, s9, t0, fun _ => rfl, o7, j3, j4⟩
  refine steps_cons ?_ ?_
  ·rintro b a w' h_ hb_ hon hoff; (iterate 24 (refine Exists.elim h_ ?_; clear h_; intro _ h_)); (iterate 63 (refine And.elim ?_ h_; clear h_; intro _ h_)); rename_i s1 s2 s3 s4 s5 s6 s7 s8 m5 n0 o3 o5 j7 j8 D0 D1 D2 D3 D4 A1 t1 t2 t3 t4 ha a8 a9 b0 b1 b4 b2 Q_HB j1 j2 l2 l3 l7 l8 m1 m2 m8 m9 n8 n9 o0 o1 p7 p8 p9 d4 d5 d6 d7 d8 d9 g0 g1 g2 g3 g4 g5 p1 q0 q1 g6 g7 g8 g9 h0 h1 h2 h3 h4 h5 h6 h7 n2 o9 o4 p0 p2 q2 s9 t0 o6 o7 j3; have j4 := h_; clear h_
   refine ⟨_, rfl, fun K hK => ?_⟩
   have e25 : a.tmps[25]? = some (A1) := by rw [ha]; exact putSel_on (e := (9, 25, A1)) 9 rfl rfl (hon 9 (by kernel_rfl)) rfl
   rw [t0 (hon 9 (by kernel_rfl))] at e25
   replace ha := mk_ ha
   have b3 := mk_ a8; have b5 := mk_ a9; have b6 := mk_ b0; have b7 := mk_ b1; have j9 := mk_ b4; have l4 := mk_ b2; have HB := mk_ Q_HB; have HF_t194 := mk_ (l2 (hon 1 (by kernel_rfl))); have HF_t195 := mk_ (l3 (hon 1 (by kernel_rfl))); have HF_t196 := mk_ (l7 (hon 3 (by kernel_rfl))); have HF_t197 := mk_ (l8 (hon 3 (by kernel_rfl))); have HF_t198 := mk_ (m1 (hon 5 (by kernel_rfl))); have HF_t199 := mk_ (m2 (hon 5 (by kernel_rfl))); have HF_t200 := mk_ (m8 (hon 7 (by kernel_rfl))); have HF_t201 := mk_ (m9 (hon 7 (by kernel_rfl))); have HF_t202 := mk_ (n8 (hon 8 (by kernel_rfl))); have HF_t203 := mk_ (n9 (hon 8 (by kernel_rfl))); have HF_t204 := mk_ (o0 (hon 8 (by kernel_rfl))); have HF_t205 := mk_ (o1 (hon 8 (by kernel_rfl)))
   refine value_ (w1 := w') (v := .agg #[.float .f64 o3, .float .f64 o5]) (by rfl) rfl ?_ ?_
   ·go_simp
    (try simp only [i64_w])
    try rfl
   refine hK.out _ _ ⟨s1, s2, s3, s4, s5, s6, s7, s8, m5, n0, o3, o5, j7, j8, D0, D1, D2, D3, D4, A1, t1, (.agg #[.float .f64 o3, .float .f64 o5]), t3, t4, (by rw [ha.out]; exact putSel_upk 11 hb_ rfl rfl rfl), a8, a9, b0, b1, b4, b2, Q_HB, j1, j2, l2, l3, l7, l8, m1, m2, m8, m9, n8, n9, o0, o1, p7, p8, p9, d4, d5, d6, d7, d8, d9, g0, g1, g2, g3, g4, g5, p1, q0, q1, g6, g7, g8, g9, h0, h1, h2, h3, h4, h5, h6, h7, n2, of_ (hoff 15 (by kernel_rfl)), o4, p0, p2, q2, s9, t0, o6, fun _ => rfl, j3, j4⟩
  refine steps_cons ?_ ?_
  ·rintro b a w' h_ hb_ hon hoff; (iterate 24 (refine Exists.elim h_ ?_; clear h_; intro _ h_)); (iterate 63 (refine And.elim ?_ h_; clear h_; intro _ h_)); rename_i s1 s2 s3 s4 s5 s6 s7 s8 m5 n0 o3 o5 j7 j8 D0 D1 D2 D3 D4 A1 t1 t2 t3 t4 ha a8 a9 b0 b1 b4 b2 Q_HB j1 j2 l2 l3 l7 l8 m1 m2 m8 m9 n8 n9 o0 o1 p7 p8 p9 d4 d5 d6 d7 d8 d9 g0 g1 g2 g3 g4 g5 p1 q0 q1 g6 g7 g8 g9 h0 h1 h2 h3 h4 h5 h6 h7 n2 o9 o4 p0 p2 q2 s9 t0 o6 o7 j3; have j4 := h_; clear h_
   refine ⟨_, rfl, fun K hK => ?_⟩
   replace ha := mk_ ha
   have b3 := mk_ a8; have b5 := mk_ a9; have b6 := mk_ b0; have b7 := mk_ b1; have j9 := mk_ b4; have l4 := mk_ b2; have HB := mk_ Q_HB
   refine box_step ?hg (N := 11) ?hd (cs := #[.float .f64 0, .float .f64 0]) (t := 39) ?hr ?_; (case hd => rfl); (case hg => rfl); (case hr => exact hr_)
   intro j7 hg W9 hbox hb
   have H9 := bk_ b3 hb
   have I0 := bk_ b5 hb
   have I1 := bk_ b6 hb
   have I2 := bk_ b7 hb
   have I3 := bk_ j9 hb
   have J7 := bk_ l4 hb
   have J8 := hk_ HB hb
   have P4 := mk_ (hbox)
   have P5 := gk_ hg HB
   have P6 := gk_ hg HB
   have J9 := nk_ hg b3
   have L0 := nj_ hg b3
   have L1 := nk_ hg b5
   have L2 := nj_ hg b5
   have L3 := nk_ hg b6
   have L4 := nj_ hg b6
   have Q1 := nk_ hg b7
   have Q2 := nj_ hg b7
   have Q3 := nk_ hg j9
   have Q4 := nj_ hg j9
   have Q5 := nk_ hg l4
   have Q6 := nj_ hg l4
   have J0 := fun (F9 : up b 12 12 = true) (D5 : up b 12 13 = true) => (show j8 ≠ j7 from (by cases hq_ : b 15 with | false => exact ((by rw [hg]; exact Nat.ne_of_lt (blk_lt (g := j8) (o := .cells #[.float .f64 0, .float .f64 0] 39 (0, 0)) (by (with_reducible repeat (first | refine blk_drewN ?_ _ | refine blk_drew ?_ | refine blk_alloc ?_ _)); exact (p1 D5 hq_))) : j8 ≠ j7)) | true => exact ((by rw [hg]; exact Nat.ne_of_lt (blk_lt (g := j8) (o := .cells #[.float .f64 o3, .float .f64 o5] 39 (0, 0)) (by (with_reducible repeat (first | refine blk_drewN ?_ _ | refine blk_drew ?_ | refine blk_alloc ?_ _)); exact (o9 hq_))) : j8 ≠ j7))))
   have J1 := fun (F9 : up b 12 12 = true) (D5 : up b 12 13 = true) => (show j7 ≠ j8 from (by cases hq_ : b 15 with | false => exact ((by rw [hg]; exact Nat.ne_of_gt (blk_lt (g := j8) (o := .cells #[.float .f64 0, .float .f64 0] 39 (0, 0)) (by (with_reducible repeat (first | refine blk_drewN ?_ _ | refine blk_drew ?_ | refine blk_alloc ?_ _)); exact (p1 D5 hq_))) : j7 ≠ j8)) | true => exact ((by rw [hg]; exact Nat.ne_of_gt (blk_lt (g := j8) (o := .cells #[.float .f64 o3, .float .f64 o5] 39 (0, 0)) (by (with_reducible repeat (first | refine blk_drewN ?_ _ | refine blk_drew ?_ | refine blk_alloc ?_ _)); exact (o9 hq_))) : j7 ≠ j8))))
   have G4 := fun (F9 : b 13 = true) (D5 : b 15 = false) => (show W9.heap[j8]? = some (.cells #[.float .f64 0, .float .f64 0] 39 (0, 0)) from by first | exact (blk_below (g := j8) (o := .cells #[.float .f64 0, .float .f64 0] 39 (0, 0)) (by (with_reducible repeat (first | refine blk_drewN ?_ _ | refine blk_drew ?_ | refine blk_alloc ?_ _)); exact (p1 F9 D5)) hb))
   clear b3; clear b5; clear b6; clear b7; clear j9; clear l4; clear HB
   have b3 := H9
   have b5 := I0
   have b6 := I1
   have b7 := I2
   have j9 := I3
   have l4 := J7
   have HB := J8
   have y5 := P4
   have M9 := P5
   have M5 := P6
   have B9 := J9
   have F0 := L0
   have C0 := L1
   have F1 := L2
   have C1 := L3
   have F2 := L4
   have C2 := Q1
   have F3 := Q2
   have t9 := Q3
   have C3 := Q4
   have y1 := Q5
   have C4 := Q6
   clear H9 I0 I1 I2 I3 J7 J8 P4 P5 P6 J9 L0 L1 L2 L3 L4 Q1 Q2 Q3 Q4 Q5 Q6; clear hb hbox hg
   refine hK.out _ _ ⟨s1, s2, s3, s4, s5, s6, s7, s8, m5, n0, o3, o5, j7, j8, D0, D1, D2, D3, D4, A1, t1, t2, (.pointer (some ⟨j7, 0, none⟩)), t4, (by rw [ha.out]; exact putSel_upk 12 hb_ rfl rfl rfl), (bx_ b3), (bx_ b5), (bx_ b6), (bx_ b7), (bx_ j9), (bx_ l4), (hw_ HB), J0, J1, l2, l3, l7, l8, m1, m2, m8, m9, n8, n9, o0, o1, fun _ _ => (bx_ y5), fun _ => M9.out, fun _ => M5.out, fun _ => B9.out, fun _ => F0.out, fun _ => C0.out, fun _ => F1.out, fun _ => C1.out, fun _ => F2.out, fun _ => C2.out, fun _ => F3.out, fun _ => t9.out, fun _ => C3.out, fun _ => y1.out, fun _ => C4.out, G4, q0, q1, g6, g7, g8, g9, h0, h1, h2, h3, h4, h5, h6, h7, of_ (hoff 14 (by kernel_rfl)), of_ (hoff 15 (by kernel_rfl)), o4, p0, p2, q2, s9, t0, o6, o7, fun _ => rfl, j4⟩
  refine steps_cons ?_ ?_
  ·rintro b a w' h_ hb_ hon hoff; (iterate 24 (refine Exists.elim h_ ?_; clear h_; intro _ h_)); (iterate 63 (refine And.elim ?_ h_; clear h_; intro _ h_)); rename_i s1 s2 s3 s4 s5 s6 s7 s8 m5 n0 o3 o5 j7 j8 D0 D1 D2 D3 D4 A1 t1 t2 t3 t4 ha a8 a9 b0 b1 b4 b2 Q_HB j1 j2 l2 l3 l7 l8 m1 m2 m8 m9 n8 n9 o0 o1 p7 p8 p9 d4 d5 d6 d7 d8 d9 g0 g1 g2 g3 g4 g5 p1 q0 q1 g6 g7 g8 g9 h0 h1 h2 h3 h4 h5 h6 h7 n2 o9 o4 p0 p2 q2 s9 t0 o6 o7 j3; have j4 := h_; clear h_
   refine ⟨_, rfl, fun K hK => ?_⟩
   replace ha := mk_ ha
   have b3 := mk_ a8; have b5 := mk_ a9; have b6 := mk_ b0; have b7 := mk_ b1; have j9 := mk_ b4; have l4 := mk_ b2; have HB := mk_ Q_HB
   refine box_step ?hg (N := 12) ?hd (cs := #[.float .f64 0, .float .f64 0]) (t := 39) ?hr ?_; (case hd => rfl); (case hg => rfl); (case hr => exact hr_)
   intro j8 hg W9 hbox hb
   have H9 := bk_ b3 hb
   have I0 := bk_ b5 hb
   have I1 := bk_ b6 hb
   have I2 := bk_ b7 hb
   have I3 := bk_ j9 hb
   have J7 := bk_ l4 hb
   have J8 := hk_ HB hb
   have P4 := mk_ (hbox)
   have P5 := gk_ hg HB
   have P6 := gk_ hg HB
   have J9 := nk_ hg b3
   have L0 := nj_ hg b3
   have L1 := nk_ hg b5
   have L2 := nj_ hg b5
   have L3 := nk_ hg b6
   have L4 := nj_ hg b6
   have Q1 := nk_ hg b7
   have Q2 := nj_ hg b7
   have Q3 := nk_ hg j9
   have Q4 := nj_ hg j9
   have Q5 := nk_ hg l4
   have Q6 := nj_ hg l4
   have J0 := fun (F9 : up b 13 12 = true) (D5 : up b 13 13 = true) => (show j8 ≠ j7 from (by cases hq_ : b 14 with | false => exact ((by rw [hg]; exact Nat.ne_of_gt (blk_lt (g := j7) (o := .cells #[.float .f64 0, .float .f64 0] 39 (0, 0)) (by (with_reducible repeat (first | refine blk_drewN ?_ _ | refine blk_drew ?_ | refine blk_alloc ?_ _)); exact (p7 F9 hq_))) : j8 ≠ j7)) | true => exact ((by rw [hg]; exact Nat.ne_of_gt (blk_lt (g := j7) (o := .cells #[.float .f64 m5, .float .f64 n0] 39 (0, 0)) (by (with_reducible repeat (first | refine blk_drewN ?_ _ | refine blk_drew ?_ | refine blk_alloc ?_ _)); exact (n2 hq_))) : j8 ≠ j7))))
   have J1 := fun (F9 : up b 13 12 = true) (D5 : up b 13 13 = true) => (show j7 ≠ j8 from (by cases hq_ : b 14 with | false => exact ((by rw [hg]; exact Nat.ne_of_lt (blk_lt (g := j7) (o := .cells #[.float .f64 0, .float .f64 0] 39 (0, 0)) (by (with_reducible repeat (first | refine blk_drewN ?_ _ | refine blk_drew ?_ | refine blk_alloc ?_ _)); exact (p7 F9 hq_))) : j7 ≠ j8)) | true => exact ((by rw [hg]; exact Nat.ne_of_lt (blk_lt (g := j7) (o := .cells #[.float .f64 m5, .float .f64 n0] 39 (0, 0)) (by (with_reducible repeat (first | refine blk_drewN ?_ _ | refine blk_drew ?_ | refine blk_alloc ?_ _)); exact (n2 hq_))) : j7 ≠ j8))))
   have G3 := fun (F9 : b 12 = true) (D5 : b 14 = false) => (show W9.heap[j7]? = some (.cells #[.float .f64 0, .float .f64 0] 39 (0, 0)) from by first | exact (blk_below (g := j7) (o := .cells #[.float .f64 0, .float .f64 0] 39 (0, 0)) (by (with_reducible repeat (first | refine blk_drewN ?_ _ | refine blk_drew ?_ | refine blk_alloc ?_ _)); exact (p7 F9 D5)) hb))
   clear b3; clear b5; clear b6; clear b7; clear j9; clear l4; clear HB
   have b3 := H9
   have b5 := I0
   have b6 := I1
   have b7 := I2
   have j9 := I3
   have l4 := J7
   have HB := J8
   have D6 := P4
   have N0 := P5
   have M6 := P6
   have C5 := J9
   have F4 := L0
   have C6 := L1
   have F5 := L2
   have C7 := L3
   have F6 := L4
   have C8 := Q1
   have F7 := Q2
   have y2 := Q3
   have C9 := Q4
   have y6 := Q5
   have E1 := Q6
   clear H9 I0 I1 I2 I3 J7 J8 P4 P5 P6 J9 L0 L1 L2 L3 L4 Q1 Q2 Q3 Q4 Q5 Q6; clear hb hbox hg
   refine hK.out _ _ ⟨s1, s2, s3, s4, s5, s6, s7, s8, m5, n0, o3, o5, j7, j8, D0, D1, D2, D3, D4, A1, t1, t2, t3, (.pointer (some ⟨j8, 0, none⟩)), (by rw [ha.out]; exact putSel_upk 13 hb_ rfl rfl rfl), (bx_ b3), (bx_ b5), (bx_ b6), (bx_ b7), (bx_ j9), (bx_ l4), (hw_ HB), J0, J1, l2, l3, l7, l8, m1, m2, m8, m9, n8, n9, o0, o1, G3, p8, p9, d4, d5, d6, d7, d8, d9, g0, g1, g2, g3, g4, g5, fun _ _ => (bx_ D6), fun _ => N0.out, fun _ => M6.out, fun _ => C5.out, fun _ => F4.out, fun _ => C6.out, fun _ => F5.out, fun _ => C7.out, fun _ => F6.out, fun _ => C8.out, fun _ => F7.out, fun _ => y2.out, fun _ => C9.out, fun _ => y6.out, fun _ => E1.out, of_ (hoff 14 (by kernel_rfl)), of_ (hoff 15 (by kernel_rfl)), o4, p0, p2, q2, s9, t0, o6, o7, j3, fun _ => rfl⟩
  refine steps_cons ?_ ?_
  ·rintro b a w' h_ hb_ hon hoff; (iterate 24 (refine Exists.elim h_ ?_; clear h_; intro _ h_)); (iterate 63 (refine And.elim ?_ h_; clear h_; intro _ h_)); rename_i s1 s2 s3 s4 s5 s6 s7 s8 m5 n0 o3 o5 j7 j8 D0 D1 D2 D3 D4 A1 t1 t2 t3 t4 ha a8 a9 b0 b1 b4 b2 Q_HB j1 j2 l2 l3 l7 l8 m1 m2 m8 m9 n8 n9 o0 o1 p7 p8 p9 d4 d5 d6 d7 d8 d9 g0 g1 g2 g3 g4 g5 p1 q0 q1 g6 g7 g8 g9 h0 h1 h2 h3 h4 h5 h6 h7 n2 o9 o4 p0 p2 q2 s9 t0 o6 o7 j3; have j4 := h_; clear h_
   refine ⟨_, rfl, fun K hK => ?_⟩
   have e11 : a.tmps[11]? = some (t3) := by rw [ha]; exact putSel_on (e := (12, 11, t3)) 12 rfl rfl (hon 12 (by kernel_rfl)) rfl
   rw [j3 (hon 12 (by kernel_rfl))] at e11
   have e35 : a.tmps[35]? = some (t1) := by rw [ha]; exact putSel_on (e := (10, 35, t1)) 10 rfl rfl (hon 10 (by kernel_rfl)) rfl
   rw [o6 (hon 10 (by kernel_rfl))] at e35
   replace ha := mk_ ha
   have b3 := mk_ a8; have b5 := mk_ a9; have b6 := mk_ b0; have b7 := mk_ b1; have j9 := mk_ b4; have l4 := mk_ b2; have HB := mk_ Q_HB; have y3 := mk_ (j1 (hon 12 (by kernel_rfl)) (hon 13 (by kernel_rfl))); have y4 := mk_ (j2 (hon 12 (by kernel_rfl)) (hon 13 (by kernel_rfl))); have HF_t194 := mk_ (l2 (hon 1 (by kernel_rfl))); have HF_t195 := mk_ (l3 (hon 1 (by kernel_rfl))); have HF_t196 := mk_ (l7 (hon 3 (by kernel_rfl))); have HF_t197 := mk_ (l8 (hon 3 (by kernel_rfl))); have HF_t198 := mk_ (m1 (hon 5 (by kernel_rfl))); have HF_t199 := mk_ (m2 (hon 5 (by kernel_rfl))); have HF_t200 := mk_ (m8 (hon 7 (by kernel_rfl))); have HF_t201 := mk_ (m9 (hon 7 (by kernel_rfl))); have HF_t202 := mk_ (n8 (hon 8 (by kernel_rfl))); have HF_t203 := mk_ (n9 (hon 8 (by kernel_rfl))); have HF_t204 := mk_ (o0 (hon 8 (by kernel_rfl))); have HF_t205 := mk_ (o1 (hon 8 (by kernel_rfl))); have y5 := mk_ (p7 (hon 12 (by kernel_rfl)) hb_); have M9 := mk_ (p8 (hon 12 (by kernel_rfl))); have M5 := mk_ (p9 (hon 12 (by kernel_rfl))); have B9 := mk_ (d4 (hon 12 (by kernel_rfl))); have F0 := mk_ (d5 (hon 12 (by kernel_rfl))); have C0 := mk_ (d6 (hon 12 (by kernel_rfl))); have F1 := mk_ (d7 (hon 12 (by kernel_rfl))); have C1 := mk_ (d8 (hon 12 (by kernel_rfl))); have F2 := mk_ (d9 (hon 12 (by kernel_rfl))); have C2 := mk_ (g0 (hon 12 (by kernel_rfl))); have F3 := mk_ (g1 (hon 12 (by kernel_rfl))); have t9 := mk_ (g2 (hon 12 (by kernel_rfl))); have C3 := mk_ (g3 (hon 12 (by kernel_rfl))); have y1 := mk_ (g4 (hon 12 (by kernel_rfl))); have C4 := mk_ (g5 (hon 12 (by kernel_rfl))); have D6 := mk_ (p1 (hon 13 (by kernel_rfl)) (hoff 15 (by kernel_rfl)))
   have N0 := mk_ (q0 (hon 13 (by kernel_rfl))); have M6 := mk_ (q1 (hon 13 (by kernel_rfl))); have C5 := mk_ (g6 (hon 13 (by kernel_rfl))); have F4 := mk_ (g7 (hon 13 (by kernel_rfl))); have C6 := mk_ (g8 (hon 13 (by kernel_rfl))); have F5 := mk_ (g9 (hon 13 (by kernel_rfl))); have C7 := mk_ (h0 (hon 13 (by kernel_rfl))); have F6 := mk_ (h1 (hon 13 (by kernel_rfl))); have C8 := mk_ (h2 (hon 13 (by kernel_rfl))); have F7 := mk_ (h3 (hon 13 (by kernel_rfl))); have y2 := mk_ (h4 (hon 13 (by kernel_rfl))); have C9 := mk_ (h5 (hon 13 (by kernel_rfl))); have y6 := mk_ (h6 (hon 13 (by kernel_rfl))); have E1 := mk_ (h7 (hon 13 (by kernel_rfl))); have y9 := HF_t194.out; have A0 := HF_t195.out; have D9 := HF_t196.out; have E0 := HF_t197.out; have G5 := HF_t198.out; have G6 := HF_t199.out; have H3 := HF_t200.out; have H4 := HF_t201.out; have H7 := HF_t202.out; have H8 := HF_t203.out; have I6 := HF_t204.out; have I7 := HF_t205.out
   have ao2 : w'.cell? ⟨j7, 0, none⟩ = some (.float .f64 0) := bc0_ y5
   have al0 := blk_frozen y5.out 0
   have ac2 := B9.out; have ac3 := C0.out
   have ac4 := C1.out; have ac5 := C2.out
   have ac6 := t9.out; have ac7 := y1.out
   have ac8 := y3.out; have ac9 := F0.out
   have ad0 := F1.out; have ad1 := F2.out
   have ad2 := F3.out; have ad3 := C3.out
   have ad4 := C4.out; have ad5 := y4.out
   have ao3 : w'.cell? ⟨j7, 1, none⟩ = some (.float .f64 0) := bc1_ y5
   have al1 := blk_frozen y5.out 1
   have ad6 := B9.out; have ad7 := C0.out
   have ad8 := C1.out; have ad9 := C2.out
   have ae0 := t9.out; have ae1 := y1.out
   have ae2 := y3.out; have ae3 := F0.out
   have ae4 := F1.out; have ae5 := F2.out
   have ae6 := F3.out; have ae7 := C3.out
   have ae8 := C4.out; have ae9 := y4.out
   refine skip_ (w1 := ?_) (by rfl) rfl ?_ ?_
   rotate_left
   ·go_simp
    rfl
   refine hK.out _ _ ⟨s1, s2, s3, s4, s5, s6, s7, s8, m5, n0, o3, o5, j7, j8, D0, D1, D2, D3, D4, A1, t1, t2, t3, t4, (by rw [ha.out]; exact putSel_none (v := undef) rfl), (by (with_reducible repeat (first | refine blk_drewN ?_ _ | refine blk_drew ?_ | refine blk_alloc ?_ _)); refine blk_far ?_ B9.out _; (with_reducible repeat (first | refine blk_drewN ?_ _ | refine blk_drew ?_ | refine blk_alloc ?_ _)); refine blk_far ?_ B9.out _; (with_reducible repeat (first | refine blk_drewN ?_ _ | refine blk_drew ?_ | refine blk_alloc ?_ _)); exact b3.out), (by (with_reducible repeat (first | refine blk_drewN ?_ _ | refine blk_drew ?_ | refine blk_alloc ?_ _)); refine blk_far ?_ C0.out _; (with_reducible repeat (first | refine blk_drewN ?_ _ | refine blk_drew ?_ | refine blk_alloc ?_ _)); refine blk_far ?_ C0.out _; (with_reducible repeat (first | refine blk_drewN ?_ _ | refine blk_drew ?_ | refine blk_alloc ?_ _)); exact b5.out), (by (with_reducible repeat (first | refine blk_drewN ?_ _ | refine blk_drew ?_ | refine blk_alloc ?_ _)); refine blk_far ?_ C1.out _; (with_reducible repeat (first | refine blk_drewN ?_ _ | refine blk_drew ?_ | refine blk_alloc ?_ _)); refine blk_far ?_ C1.out _; (with_reducible repeat (first | refine blk_drewN ?_ _ | refine blk_drew ?_ | refine blk_alloc ?_ _)); exact b6.out), (by (with_reducible repeat (first | refine blk_drewN ?_ _ | refine blk_drew ?_ | refine blk_alloc ?_ _)); refine blk_far ?_ C2.out _; (with_reducible repeat (first | refine blk_drewN ?_ _ | refine blk_drew ?_ | refine blk_alloc ?_ _)); refine blk_far ?_ C2.out _; (with_reducible repeat (first | refine blk_drewN ?_ _ | refine blk_drew ?_ | refine blk_alloc ?_ _)); exact b7.out), (by (with_reducible repeat (first | refine blk_drewN ?_ _ | refine blk_drew ?_ | refine blk_alloc ?_ _)); refine blk_far ?_ t9.out _; (with_reducible repeat (first | refine blk_drewN ?_ _ | refine blk_drew ?_ | refine blk_alloc ?_ _)); refine blk_far ?_ t9.out _; (with_reducible repeat (first | refine blk_drewN ?_ _ | refine blk_drew ?_ | refine blk_alloc ?_ _)); exact j9.out), (by (with_reducible repeat (first | refine blk_drewN ?_ _ | refine blk_drew ?_ | refine blk_alloc ?_ _)); refine blk_far ?_ y1.out _; (with_reducible repeat (first | refine blk_drewN ?_ _ | refine blk_drew ?_ | refine blk_alloc ?_ _)); refine blk_far ?_ y1.out _; (with_reducible repeat (first | refine blk_drewN ?_ _ | refine blk_drew ?_ | refine blk_alloc ?_ _)); exact l4.out), (by repeat (first | (with_reducible first | exact HB.out | apply below_alloc | apply pw_below_drewN | apply below_drew1 | refine below_set ?_ M5.out) | exact HB.out)), fun _ _ => y3.out, fun _ _ => y4.out, fun _ => y9, fun _ => A0, fun _ => D9, fun _ => E0, fun _ => G5, fun _ => G6, fun _ => H3, fun _ => H4, fun _ => H7, fun _ => H8, fun _ => I6, fun _ => I7, fun _ D5 => absurd ((up_self b 14).symm.trans D5) (by decide), fun _ => M9.out, fun _ => M5.out, fun _ => B9.out, fun _ => F0.out, fun _ => C0.out, fun _ => F1.out, fun _ => C1.out, fun _ => F2.out, fun _ => C2.out, fun _ => F3.out, fun _ => t9.out, fun _ => C3.out, fun _ => y1.out, fun _ => C4.out, fun _ _ => (by (with_reducible repeat (first | refine blk_drewN ?_ _ | refine blk_drew ?_ | refine blk_alloc ?_ _)); refine blk_far ?_ y3.out _; (with_reducible repeat (first | refine blk_drewN ?_ _ | refine blk_drew ?_ | refine blk_alloc ?_ _)); refine blk_far ?_ y3.out _; (with_reducible repeat (first | refine blk_drewN ?_ _ | refine blk_drew ?_ | refine blk_alloc ?_ _)); exact D6.out), fun _ => N0.out, fun _ => M6.out, fun _ => C5.out, fun _ => F4.out, fun _ => C6.out, fun _ => F5.out, fun _ => C7.out, fun _ => F6.out, fun _ => C8.out, fun _ => F7.out, fun _ => y2.out, fun _ => C9.out, fun _ => y6.out, fun _ => E1.out, fun _ => (by (with_reducible repeat (first | refine blk_drewN ?_ _ | refine blk_drew ?_ | refine blk_alloc ?_ _)); refine blk_put (cs := #[.float .f64 m5, .float .f64 0]) ?_ 1 _ rfl; (with_reducible repeat (first | refine blk_drewN ?_ _ | refine blk_drew ?_ | refine blk_alloc ?_ _)); refine blk_put (cs := #[.float .f64 0, .float .f64 0]) ?_ 0 _ rfl; (with_reducible repeat (first | refine blk_drewN ?_ _ | refine blk_drew ?_ | refine blk_alloc ?_ _)); exact y5.out), of_ (hoff 15 (by kernel_rfl)), o4, p0, p2, q2, s9, t0, o6, o7, j3, j4⟩
  refine steps_cons ?_ ?_
  ·rintro b a w' h_ hb_ hon hoff; (iterate 24 (refine Exists.elim h_ ?_; clear h_; intro _ h_)); (iterate 63 (refine And.elim ?_ h_; clear h_; intro _ h_)); rename_i s1 s2 s3 s4 s5 s6 s7 s8 m5 n0 o3 o5 j7 j8 D0 D1 D2 D3 D4 A1 t1 t2 t3 t4 ha a8 a9 b0 b1 b4 b2 Q_HB j1 j2 l2 l3 l7 l8 m1 m2 m8 m9 n8 n9 o0 o1 p7 p8 p9 d4 d5 d6 d7 d8 d9 g0 g1 g2 g3 g4 g5 p1 q0 q1 g6 g7 g8 g9 h0 h1 h2 h3 h4 h5 h6 h7 n2 o9 o4 p0 p2 q2 s9 t0 o6 o7 j3; have j4 := h_; clear h_
   refine ⟨_, rfl, fun K hK => ?_⟩
   have e12 : a.tmps[12]? = some (t4) := by rw [ha]; exact putSel_on (e := (13, 12, t4)) 13 rfl rfl (hon 13 (by kernel_rfl)) rfl
   rw [j4 (hon 13 (by kernel_rfl))] at e12
   have e36 : a.tmps[36]? = some (t2) := by rw [ha]; exact putSel_on (e := (11, 36, t2)) 11 rfl rfl (hon 11 (by kernel_rfl)) rfl
   rw [o7 (hon 11 (by kernel_rfl))] at e36
   replace ha := mk_ ha
   have b3 := mk_ a8; have b5 := mk_ a9; have b6 := mk_ b0; have b7 := mk_ b1; have j9 := mk_ b4; have l4 := mk_ b2; have HB := mk_ Q_HB; have y3 := mk_ (j1 (hon 12 (by kernel_rfl)) (hon 13 (by kernel_rfl))); have y4 := mk_ (j2 (hon 12 (by kernel_rfl)) (hon 13 (by kernel_rfl))); have HF_t194 := mk_ (l2 (hon 1 (by kernel_rfl))); have HF_t195 := mk_ (l3 (hon 1 (by kernel_rfl))); have HF_t196 := mk_ (l7 (hon 3 (by kernel_rfl))); have HF_t197 := mk_ (l8 (hon 3 (by kernel_rfl))); have HF_t198 := mk_ (m1 (hon 5 (by kernel_rfl))); have HF_t199 := mk_ (m2 (hon 5 (by kernel_rfl))); have HF_t200 := mk_ (m8 (hon 7 (by kernel_rfl))); have HF_t201 := mk_ (m9 (hon 7 (by kernel_rfl))); have HF_t202 := mk_ (n8 (hon 8 (by kernel_rfl))); have HF_t203 := mk_ (n9 (hon 8 (by kernel_rfl))); have HF_t204 := mk_ (o0 (hon 8 (by kernel_rfl))); have HF_t205 := mk_ (o1 (hon 8 (by kernel_rfl))); have M9 := mk_ (p8 (hon 12 (by kernel_rfl))); have M5 := mk_ (p9 (hon 12 (by kernel_rfl))); have B9 := mk_ (d4 (hon 12 (by kernel_rfl))); have F0 := mk_ (d5 (hon 12 (by kernel_rfl))); have C0 := mk_ (d6 (hon 12 (by kernel_rfl))); have F1 := mk_ (d7 (hon 12 (by kernel_rfl))); have C1 := mk_ (d8 (hon 12 (by kernel_rfl))); have F2 := mk_ (d9 (hon 12 (by kernel_rfl))); have C2 := mk_ (g0 (hon 12 (by kernel_rfl))); have F3 := mk_ (g1 (hon 12 (by kernel_rfl))); have t9 := mk_ (g2 (hon 12 (by kernel_rfl))); have C3 := mk_ (g3 (hon 12 (by kernel_rfl))); have y1 := mk_ (g4 (hon 12 (by kernel_rfl))); have C4 := mk_ (g5 (hon 12 (by kernel_rfl))); have D6 := mk_ (p1 (hon 13 (by kernel_rfl)) hb_); have N0 := mk_ (q0 (hon 13 (by kernel_rfl)))
   have M6 := mk_ (q1 (hon 13 (by kernel_rfl))); have C5 := mk_ (g6 (hon 13 (by kernel_rfl))); have F4 := mk_ (g7 (hon 13 (by kernel_rfl))); have C6 := mk_ (g8 (hon 13 (by kernel_rfl))); have F5 := mk_ (g9 (hon 13 (by kernel_rfl))); have C7 := mk_ (h0 (hon 13 (by kernel_rfl))); have F6 := mk_ (h1 (hon 13 (by kernel_rfl))); have C8 := mk_ (h2 (hon 13 (by kernel_rfl))); have F7 := mk_ (h3 (hon 13 (by kernel_rfl))); have y2 := mk_ (h4 (hon 13 (by kernel_rfl))); have C9 := mk_ (h5 (hon 13 (by kernel_rfl))); have y6 := mk_ (h6 (hon 13 (by kernel_rfl))); have E1 := mk_ (h7 (hon 13 (by kernel_rfl))); have y5 := mk_ (n2 (hon 14 (by kernel_rfl))); have y9 := HF_t194.out; have A0 := HF_t195.out; have D9 := HF_t196.out; have E0 := HF_t197.out; have G5 := HF_t198.out; have G6 := HF_t199.out; have H3 := HF_t200.out; have H4 := HF_t201.out; have H7 := HF_t202.out; have H8 := HF_t203.out; have I6 := HF_t204.out; have I7 := HF_t205.out
   have ao4 : w'.cell? ⟨j8, 0, none⟩ = some (.float .f64 0) := bc0_ D6
   have al2 := blk_frozen D6.out 0
   have af0 := C5.out; have af1 := C6.out
   have af2 := C7.out; have af3 := C8.out
   have af4 := y2.out; have af5 := y6.out
   have af6 := y4.out; have af7 := F4.out
   have af8 := F5.out; have af9 := F6.out
   have ag0 := F7.out; have ag1 := C9.out
   have ag2 := E1.out; have ag3 := y3.out
   have ao5 : w'.cell? ⟨j8, 1, none⟩ = some (.float .f64 0) := bc1_ D6
   have al3 := blk_frozen D6.out 1
   have ag4 := C5.out; have ag5 := C6.out
   have ag6 := C7.out; have ag7 := C8.out
   have ag8 := y2.out; have ag9 := y6.out
   have ah0 := y4.out; have ah1 := F4.out
   have ah2 := F5.out; have ah3 := F6.out
   have ah4 := F7.out; have ah5 := C9.out
   have ah6 := E1.out; have ah7 := y3.out
   refine skip_ (w1 := ?_) (by rfl) rfl ?_ ?_
   rotate_left
   ·go_simp
    rfl
   refine hK.out _ _ ⟨s1, s2, s3, s4, s5, s6, s7, s8, m5, n0, o3, o5, j7, j8, D0, D1, D2, D3, D4, A1, t1, t2, t3, t4, (by rw [ha.out]; exact putSel_none (v := undef) rfl), (by (with_reducible repeat (first | refine blk_drewN ?_ _ | refine blk_drew ?_ | refine blk_alloc ?_ _)); refine blk_far ?_ C5.out _; (with_reducible repeat (first | refine blk_drewN ?_ _ | refine blk_drew ?_ | refine blk_alloc ?_ _)); refine blk_far ?_ C5.out _; (with_reducible repeat (first | refine blk_drewN ?_ _ | refine blk_drew ?_ | refine blk_alloc ?_ _)); exact b3.out), (by (with_reducible repeat (first | refine blk_drewN ?_ _ | refine blk_drew ?_ | refine blk_alloc ?_ _)); refine blk_far ?_ C6.out _; (with_reducible repeat (first | refine blk_drewN ?_ _ | refine blk_drew ?_ | refine blk_alloc ?_ _)); refine blk_far ?_ C6.out _; (with_reducible repeat (first | refine blk_drewN ?_ _ | refine blk_drew ?_ | refine blk_alloc ?_ _)); exact b5.out), (by (with_reducible repeat (first | refine blk_drewN ?_ _ | refine blk_drew ?_ | refine blk_alloc ?_ _)); refine blk_far ?_ C7.out _; (with_reducible repeat (first | refine blk_drewN ?_ _ | refine blk_drew ?_ | refine blk_alloc ?_ _)); refine blk_far ?_ C7.out _; (with_reducible repeat (first | refine blk_drewN ?_ _ | refine blk_drew ?_ | refine blk_alloc ?_ _)); exact b6.out), (by (with_reducible repeat (first | refine blk_drewN ?_ _ | refine blk_drew ?_ | refine blk_alloc ?_ _)); refine blk_far ?_ C8.out _; (with_reducible repeat (first | refine blk_drewN ?_ _ | refine blk_drew ?_ | refine blk_alloc ?_ _)); refine blk_far ?_ C8.out _; (with_reducible repeat (first | refine blk_drewN ?_ _ | refine blk_drew ?_ | refine blk_alloc ?_ _)); exact b7.out), (by (with_reducible repeat (first | refine blk_drewN ?_ _ | refine blk_drew ?_ | refine blk_alloc ?_ _)); refine blk_far ?_ y2.out _; (with_reducible repeat (first | refine blk_drewN ?_ _ | refine blk_drew ?_ | refine blk_alloc ?_ _)); refine blk_far ?_ y2.out _; (with_reducible repeat (first | refine blk_drewN ?_ _ | refine blk_drew ?_ | refine blk_alloc ?_ _)); exact j9.out), (by (with_reducible repeat (first | refine blk_drewN ?_ _ | refine blk_drew ?_ | refine blk_alloc ?_ _)); refine blk_far ?_ y6.out _; (with_reducible repeat (first | refine blk_drewN ?_ _ | refine blk_drew ?_ | refine blk_alloc ?_ _)); refine blk_far ?_ y6.out _; (with_reducible repeat (first | refine blk_drewN ?_ _ | refine blk_drew ?_ | refine blk_alloc ?_ _)); exact l4.out), (by repeat (first | (with_reducible first | exact HB.out | apply below_alloc | apply pw_below_drewN | apply below_drew1 | refine below_set ?_ M6.out) | exact HB.out)), fun _ _ => y3.out, fun _ _ => y4.out, fun _ => y9, fun _ => A0, fun _ => D9, fun _ => E0, fun _ => G5, fun _ => G6, fun _ => H3, fun _ => H4, fun _ => H7, fun _ => H8, fun _ => I6, fun _ => I7, fun _ D5 => absurd ((hon 14 (by kernel_rfl)).symm.trans D5) (by decide), fun _ => M9.out, fun _ => M5.out, fun _ => B9.out, fun _ => F0.out, fun _ => C0.out, fun _ => F1.out, fun _ => C1.out, fun _ => F2.out, fun _ => C2.out, fun _ => F3.out, fun _ => t9.out, fun _ => C3.out, fun _ => y1.out, fun _ => C4.out, fun _ D5 => absurd ((up_self b 15).symm.trans D5) (by decide), fun _ => N0.out, fun _ => M6.out, fun _ => C5.out, fun _ => F4.out, fun _ => C6.out, fun _ => F5.out, fun _ => C7.out, fun _ => F6.out, fun _ => C8.out, fun _ => F7.out, fun _ => y2.out, fun _ => C9.out, fun _ => y6.out, fun _ => E1.out, fun _ => (by (with_reducible repeat (first | refine blk_drewN ?_ _ | refine blk_drew ?_ | refine blk_alloc ?_ _)); refine blk_far ?_ y4.out _; (with_reducible repeat (first | refine blk_drewN ?_ _ | refine blk_drew ?_ | refine blk_alloc ?_ _)); refine blk_far ?_ y4.out _; (with_reducible repeat (first | refine blk_drewN ?_ _ | refine blk_drew ?_ | refine blk_alloc ?_ _)); exact y5.out), fun _ => (by (with_reducible repeat (first | refine blk_drewN ?_ _ | refine blk_drew ?_ | refine blk_alloc ?_ _)); refine blk_put (cs := #[.float .f64 o3, .float .f64 0]) ?_ 1 _ rfl; (with_reducible repeat (first | refine blk_drewN ?_ _ | refine blk_drew ?_ | refine blk_alloc ?_ _)); refine blk_put (cs := #[.float .f64 0, .float .f64 0]) ?_ 0 _ rfl; (with_reducible repeat (first | refine blk_drewN ?_ _ | refine blk_drew ?_ | refine blk_alloc ?_ _)); exact D6.out), o4, p0, p2, q2, s9, t0, o6, o7, j3, j4⟩
  exact steps_nil
 rintro b a w45 hall h_; (iterate 24 (refine Exists.elim h_ ?_; clear h_; intro _ h_)); (iterate 63 (refine And.elim ?_ h_; clear h_; intro _ h_)); rename_i s1 s2 s3 s4 s5 s6 s7 s8 m5 n0 o3 o5 j7 j8 D0 D1 D2 D3 D4 A1 t1 t2 t3 t4 ha a8 a9 b0 b1 b4 b2 Q_HB j1 j2 l2 l3 l7 l8 m1 m2 m8 m9 n8 n9 o0 o1 p7 p8 p9 d4 d5 d6 d7 d8 d9 g0 g1 g2 g3 g4 g5 p1 q0 q1 g6 g7 g8 g9 h0 h1 h2 h3 h4 h5 h6 h7 n2 o9 o4 p0 p2 q2 s9 t0 o6 o7 j3; have j4 := h_; clear h_
 clear b3 b5 b6 b7 j9 l4 HB
 have P7 := hall 0 (by kernel_rfl)
 have L7 := hall 1 (by kernel_rfl)
 have P8 := hall 2 (by kernel_rfl)
 have L8 := hall 3 (by kernel_rfl)
 have P9 := hall 4 (by kernel_rfl)
 have L9 := hall 5 (by kernel_rfl)
 have Q0 := hall 6 (by kernel_rfl)
 have M0 := hall 7 (by kernel_rfl)
 have J2 := hall 8 (by kernel_rfl)
 have O0 := hall 9 (by kernel_rfl)
 have M1 := hall 10 (by kernel_rfl)
 have M2 := hall 11 (by kernel_rfl)
 have t5 := hall 12 (by kernel_rfl)
 have t6 := hall 13 (by kernel_rfl)
 have M3 := hall 14 (by kernel_rfl)
 have M4 := hall 15 (by kernel_rfl)
 subst ha
 obtain rfl := o4 L7
 obtain rfl := p0 L8
 obtain rfl := p2 L9
 obtain rfl := q2 M0
 obtain rfl := s9 J2
 obtain rfl := t0 O0
 obtain rfl := o6 M1
 obtain rfl := o7 M2
 obtain rfl := j3 t5
 obtain rfl := j4 t6
 simp only [putSel, P7, L7, P8, L8, P9, L9, Q0, M0, J2, O0, M1, M2, t5, t6, M3, M4, if_true, Act.put, List.setIfInBounds_toArray, List.set_cons_zero, List.set_cons_succ]
 have b3 := mk_ a8; clear a8; have b5 := mk_ a9; clear a9; have b6 := mk_ b0; clear b0; have b7 := mk_ b1; clear b1; have j9 := mk_ b4; clear b4; have l4 := mk_ b2; clear b2; have HB := mk_ Q_HB; clear Q_HB; have y3 := mk_ (j1 t5 t6); clear j1; have y4 := mk_ (j2 t5 t6); clear j2; have HF_t194 := mk_ (l2 L7); clear l2; have HF_t195 := mk_ (l3 L7); clear l3; have HF_t196 := mk_ (l7 L8); clear l7; have HF_t197 := mk_ (l8 L8); clear l8; have HF_t198 := mk_ (m1 L9); clear m1; have HF_t199 := mk_ (m2 L9); clear m2; have HF_t200 := mk_ (m8 M0); clear m8; have HF_t201 := mk_ (m9 M0); clear m9; have HF_t202 := mk_ (n8 J2); clear n8; have HF_t203 := mk_ (n9 J2); clear n9; have HF_t204 := mk_ (o0 J2); clear o0; have HF_t205 := mk_ (o1 J2); clear o1; clear p7; have M9 := mk_ (p8 t5); clear p8; have M5 := mk_ (p9 t5); clear p9; have B9 := mk_ (d4 t5); clear d4; have F0 := mk_ (d5 t5); clear d5; have C0 := mk_ (d6 t5); clear d6; have F1 := mk_ (d7 t5); clear d7; have C1 := mk_ (d8 t5); clear d8; have F2 := mk_ (d9 t5); clear d9; have C2 := mk_ (g0 t5); clear g0; have F3 := mk_ (g1 t5); clear g1; have t9 := mk_ (g2 t5); clear g2; have C3 := mk_ (g3 t5); clear g3; have y1 := mk_ (g4 t5); clear g4; have C4 := mk_ (g5 t5); clear g5; clear p1; have N0 := mk_ (q0 t6); clear q0
 have M6 := mk_ (q1 t6); clear q1; have C5 := mk_ (g6 t6); clear g6; have F4 := mk_ (g7 t6); clear g7; have C6 := mk_ (g8 t6); clear g8; have F5 := mk_ (g9 t6); clear g9; have C7 := mk_ (h0 t6); clear h0; have F6 := mk_ (h1 t6); clear h1; have C8 := mk_ (h2 t6); clear h2; have F7 := mk_ (h3 t6); clear h3; have y2 := mk_ (h4 t6); clear h4; have C9 := mk_ (h5 t6); clear h5; have y6 := mk_ (h6 t6); clear h6; have E1 := mk_ (h7 t6); clear h7; have y5 := mk_ (n2 M3); clear n2; have D6 := mk_ (o9 M4); clear o9; clear hall P7 L7 P8 L8 P9 L9 Q0 M0 J2 O0 M1 M2 t5 t6 M3 M4; have y9 := HF_t194.out; have A0 := HF_t195.out; have D9 := HF_t196.out; have E0 := HF_t197.out; have G5 := HF_t198.out; have G6 := HF_t199.out; have H3 := HF_t200.out; have H4 := HF_t201.out; have H7 := HF_t202.out; have H8 := HF_t203.out; have I6 := HF_t204.out; have I7 := HF_t205.out
 go_upto_region 3 with (fail)
 go_cut [46] (fun v46 wc => ∃ (kq : Nat) (N1 : Bool), v46 = .bool N1 ∧ Aside0 (laws_FnExactFlutter.j0 kq N1 = some r) ∧ Aside0 (kq ≤ k) ∧ Aside0 (wc.heap[j5]? = some (.cells #[.float .f64 m3, .float .f64 m4] 39 (0, 0))) ∧ Aside0 (wc.heap[j6]? = some (.cells #[.float .f64 n3, .float .f64 o2] 39 (0, 0))) ∧ Aside0 (wc.heap[j7]? = some (.cells #[.float .f64 m5, .float .f64 n0] 39 (0, 0))) ∧ Aside0 (wc.heap[j8]? = some (.cells #[.float .f64 o3, .float .f64 o5] 39 (0, 0))) ∧ Aside0 (Below w.heap.size w wc))
 case first =>
  have H := W1.out; clear W1; replace H := Option.bind_eq_some_iff.mp H; obtain ⟨O9, Y0, H⟩ := H; (try dsimp only at H); have A46 := mk_ Y0; clear Y0; by_cases c47 : O9 = true
  ·subst c47; rw [if_pos rfl] at H
   replace H := Option.bind_eq_some_iff.mp H; obtain ⟨O1, Y1, H⟩ := H
   (try dsimp only at H); have A48 := mk_ Y1; clear Y1
   have H' := mk_ H
   clear H; have al4 := C3.out; have al5 := t9.out; have al6 := C4.out; have al7 := y1.out; have al8 := y4.out; have al9 := y3.out; have ah8 := bc0_ y5; have ah9 := bc1_ y5; have ai0 := bf_ y5 0; have ai1 := bf_ y5 1; have am0 := t8.out; have am1 := t7.out; have am2 := y2.out; have am3 := C9.out; have ai2 := bc0_ j9; have ai3 := bc1_ j9; have ai4 := bf_ j9 0; have ai5 := bf_ j9 1
   go_wp2_with (first | ((with_reducible refine gc_ 22 rfl ?_); refine gl_ (some 39) rfl Try.func22 #[.agg #[.float .f64 m5, .float .f64 n0], .agg #[.float .f64 m3, .float .f64 m4]] ?_; (with_reducible refine (laws_eqCx.calls k m5 Q9 n0 R0 m3 Q7 m4 Q8 true _ ?A2 ?A3 ?J5 ?J6 A46.out).mono ?_); (case A2 => exact H7); (case A3 => exact H8); (case J5 => exact H5); (case J6 => exact H6); rintro e w56 ⟨rfl, hb⟩; refine ⟨_, rfl, ?_⟩; replace j9 := bl_ j9 hb; replace l4 := bl_ l4 hb; replace y5 := bl_ y5 hb; replace D6 := bl_ D6 hb; replace HB := bp_ HB hb; (try clear hb); (try clear O8); (try clear hk); (try clear hi); have am4 := E1.out; have am5 := y6.out; have ai6 := bc0_ D6; have ai7 := bc1_ D6; have ai8 := bf_ D6 0; have ai9 := bf_ D6 1; have aj0 := bc0_ l4; have aj1 := bc1_ l4; have aj2 := bf_ l4 0; have aj3 := bf_ l4 1) | (go_at_call 22; (with_reducible refine (laws_eqCx.calls k o3 V9 o5 W0 n3 R9 o2 V0 O1 _ ?A2 ?A3 ?J5 ?J6 A48.out).mono ?_); (case A2 => exact I6); (case A3 => exact I7); (case J5 => exact I4); (case J6 => exact I5); rintro e w60 ⟨rfl, hb⟩; replace j9 := bl_ j9 hb; replace l4 := bl_ l4 hb; replace y5 := bl_ y5 hb; replace D6 := bl_ D6 hb; replace HB := bp_ HB hb; (try clear hb); (try clear O8); (try clear hk); (try clear hi)))
   go_meet
   case rel => exact ⟨_, (!O1), rf_, H', ⟨by first | omega | exact Nat.le_refl _⟩, bw_ j9, bw_ l4, bw_ y5, bw_ D6, ⟨hw_ HB⟩⟩
  ·replace c47 := Bool.eq_false_iff.mpr c47; subst c47; rw [if_neg (show ¬ (false = true) by decide)] at H
   have H' := mk_ H
   clear H; have am6 := C3.out; have am7 := t9.out; have am8 := C4.out; have am9 := y1.out; have an0 := y4.out; have an1 := y3.out; have aj4 := bc0_ y5; have aj5 := bc1_ y5; have aj6 := bf_ y5 0; have aj7 := bf_ y5 1; have an2 := t8.out; have an3 := t7.out; have an4 := y2.out; have an5 := C9.out; have aj8 := bc0_ j9; have aj9 := bc1_ j9; have ak0 := bf_ j9 0; have ak1 := bf_ j9 1
   go_wp2_with (first | ((with_reducible refine gc_ 22 rfl ?_); refine gl_ (some 39) rfl Try.func22 #[.agg #[.float .f64 m5, .float .f64 n0], .agg #[.float .f64 m3, .float .f64 m4]] ?_; (with_reducible refine (laws_eqCx.calls k m5 Q9 n0 R0 m3 Q7 m4 Q8 false _ ?A2 ?A3 ?J5 ?J6 A46.out).mono ?_); (case A2 => exact H7); (case A3 => exact H8); (case J5 => exact H5); (case J6 => exact H6); rintro e w68 ⟨rfl, hb⟩; refine ⟨_, rfl, ?_⟩; replace j9 := bl_ j9 hb; replace l4 := bl_ l4 hb; replace y5 := bl_ y5 hb; replace D6 := bl_ D6 hb; replace HB := bp_ HB hb; (try clear hb); (try clear O8); (try clear hk); (try clear hi)))
   go_meet
   case rel => exact ⟨_, (true), rf_, H', ⟨by first | omega | exact Nat.le_refl _⟩, bw_ j9, bw_ l4, bw_ y5, bw_ D6, ⟨hw_ HB⟩⟩
 case rest =>
  clear W1
  obtain ⟨kq, N1, rfl, HA, ao6, j9, l4, y5, D6, HB⟩ := hcut
  cases kq with
  | zero => exact absurd HA.out (by simp [laws_FnExactFlutter.j0])
  | succ kj14 =>
   have H := HA.out; clear HA
   simp only [laws_FnExactFlutter.j0] at H
   by_cases c69 : N1 = true
   ·subst c69; rw [if_pos rfl] at H
    obtain rfl := Option.some.inj H; go_wp2
    go_ret
    exact ⟨re_, hw_ HB⟩
   ·replace c69 := Bool.eq_false_iff.mpr c69; subst c69; rw [if_neg (show ¬ (false = true) by decide)] at H; obtain rfl := Option.some.inj H; go_wp2; go_ret
    exact ⟨re_, hw_ HB⟩

end Go.Proofs.Ytkginilghcepbaa.QFnExactFlutter
-- squeezed
