/- Proved here: the program's and the reference's Rolls are the same function of the runner and the two speeds; no condition. -/
import Derived.Test.YtceepcjpelcbgaaPureDefFnExactRolls
namespace Go.Proofs.Ytceepcjpelcbgaa.Pure
open Go.RowKit Go.Proofs.Ytceepcjpelcbgaa.PFnExactRolls Go.Proofs.YtceepcjpelcbgaaW.PrintWords Go.Proofs.YtceepcjpelcbgaaW.PrintLast Go.Proofs.YtceepcjpelcbgaaW.PrintMore
set_option linter.unusedVariables false
set_option linter.unusedSimpArgs false

theorem ev_pos {c : Prop} [Decidable c] {α : Type} {A B : Nat → Option α} {r : α} (h : c) (k : Ev A r) : Ev (fun n => if c then A n else B n) r := by
  simpa only [if_pos h] using k
theorem ev_neg {c : Prop} [Decidable c] {α : Type} {A B : Nat → Option α} {r : α} (h : ¬ c) (k : Ev B r) : Ev (fun n => if c then A n else B n) r := by
  simpa only [if_neg h] using k
theorem ev_succ {α : Type} {g : Nat → Option α} {r : α} (h : Ev (fun k => g (k + 1)) r) : Ev g r := Ev.step (fun _ => rfl) h
theorem ex_succ {α : Type} {g : Nat → Option α} (h : ∃ r, Ev (fun k => g (k + 1)) r) : ∃ r, Ev g r := by
  obtain ⟨r, h⟩ := h
  exact ⟨r, ev_succ h⟩
theorem ev_one {α : Type} {g : Nat → Option α} {r q : α} (h : Ev g r) (h' : Ev g q) : r = q := by
  obtain ⟨K, hK⟩ := h
  obtain ⟨L, hL⟩ := h'
  have a := hK (max K L) (Nat.le_max_left _ _)
  have b := hL (max K L) (Nat.le_max_right _ _)
  exact Option.some.inj (a.symm.trans b)
theorem ev_bool {α : Type} {A B : Nat → Option α} {r : α} (b : Bool) (h1 : b = true → Ev A r) (h2 : b = false → Ev B r) : Ev (fun n => if b = true then A n else B n) r := by
  cases b with
  | true => exact ev_pos (by trivial) (h1 rfl)
  | false => exact ev_neg (by decide) (h2 rfl)
theorem bool_eq_of_iff {a b : Bool} {p : Prop} (h : a = true ↔ p) (h' : b = true ↔ p) : a = b := by
  rw [Bool.eq_iff_iff]
  exact h.trans h'.symm
theorem w64 {x : Int} (h0 : -9223372036854775808 ≤ x) (h1 : x ≤ 9223372036854775807) : wrap64 x = x := by
  unfold wrap64
  omega
theorem w64_succ {n m : Nat} (h : n < m) (hm : m ≤ 9223372036854775807) : wrap64 ((n : Int) + 1) = ((n + 1 : Nat) : Int) := by
  unfold wrap64
  omega
theorem rd_nat (l : List Int) (n : Nat) : rd l (n : Int) = l.getD n 0 := by
  unfold rd
  rw [Int.toNat_natCast]
theorem take_set_succ {α : Type} (d : α) {x0 x3 : List α} {n : Nat} (h : n < x0.length) (hl : x3.length = x0.length) (ht : x3.take n = x0.take n) : (x3.set n (x0.getD n d)).take (n + 1) = x0.take (n + 1) := by
  apply List.ext_getElem?
  intro i
  simp only [List.getElem?_take, List.getElem?_set]
  by_cases hi : i < n + 1
  · rw [if_pos hi, if_pos hi]
    by_cases he : n = i
    · subst he
      rw [if_pos rfl, if_pos (by omega), List.getD_eq_getElem?_getD, List.getElem?_eq_getElem h]
      rfl
    · rw [if_neg he]
      have := congrArg (fun l => l[i]?) ht
      simpa only [List.getElem?_take, if_pos (show i < n by omega)] using this
  · rw [if_neg hi, if_neg hi]
theorem u8_bounds {l : List Int} (h : ∀ x ∈ l, 0 ≤ x ∧ x ≤ 255) (n : Nat) : 0 ≤ l.getD n 0 ∧ l.getD n 0 ≤ 255 := by
  rw [List.getD_eq_getElem?_getD]
  cases e : l[n]? with
  | none => simp
  | some x =>
    exact h x (List.mem_of_getElem? e)

theorem impl_in_eq (a b c : Int) : impl_in.f a b c = some (decide (b ≤ a ∧ a ≤ c)) := by
  unfold impl_in.f
  split
  · congr 1
    rw [decide_eq_decide]
    omega
  · congr 1
    symm
    rw [decide_eq_false_iff_not]
    omega

theorem spec_in_eq (a b c : Int) : spec_l1In.f a b c = some (decide (b ≤ a ∧ a ≤ c)) := by
  unfold spec_l1In.f
  split
  · congr 1
    rw [decide_eq_decide]
    omega
  · congr 1
    symm
    rw [decide_eq_false_iff_not]
    omega

def RunOk (a b c d : Int) : Prop := 1 ≤ a ∧ a ≤ 40 ∧ 0 ≤ b ∧ b ≤ 20 ∧ 1 ≤ c ∧ c ≤ 40 ∧ 2 ≤ d ∧ d ≤ 4
instance (a b c d : Int) : Decidable (RunOk a b c d) := by unfold RunOk; infer_instance
theorem spec_run_eq (a b c d : Int) : spec_RunnerOk.f a b c d = some (decide (RunOk a b c d)) := by
  simp only [spec_RunnerOk.f, spec_in_eq, Option.bind_some, decide_eq_true_eq]
  repeat' split
  all_goals first | (congr 1; rw [decide_eq_decide]; unfold RunOk; omega) | (congr 1; symm; rw [decide_eq_false_iff_not]; unfold RunOk; omega)
theorem impl_run_eq (a b c d : Int) : impl_RunnerOk.f a b c d = some (decide (RunOk a b c d)) := by
  simp only [impl_RunnerOk.f, impl_in_eq, Option.bind_some, decide_eq_true_eq]
  repeat' split
  all_goals first | (congr 1; rw [decide_eq_decide]; unfold RunOk; omega) | (congr 1; symm; rw [decide_eq_false_iff_not]; unfold RunOk; omega)

def gr (e p d : Int) : Int := mx (e * p - d) 0
theorem gr_bounds {e p d : Int} (h0 : 0 ≤ e) (h1 : e ≤ 4) (h2 : 1 ≤ p) (h3 : p ≤ 40) (h4 : 0 ≤ d) (h5 : d ≤ 20) : 0 ≤ e * p ∧ e * p ≤ 160 ∧ 0 ≤ gr e p d ∧ gr e p d ≤ 160 := by
  have a := Int.mul_nonneg h0 (show 0 ≤ p by omega)
  have b : e * p ≤ 4 * 40 := Int.mul_le_mul h1 h3 (by omega) (by omega)
  unfold gr mx
  split <;> omega
theorem spec_grow {p d s n e : Int} (h0 : 0 ≤ e) (h1 : e ≤ 4) (h2 : 1 ≤ p) (h3 : p ≤ 40) (h4 : 0 ≤ d) (h5 : d ≤ 20) : spec_l3Grow.f p d s n e = some (gr e p d) := by
  obtain ⟨a, b, _, _⟩ := gr_bounds h0 h1 h2 h3 h4 h5
  unfold spec_l3Grow.f spec_l1Max.f
  rw [w64 (x := e * p) (by omega) (by omega), w64 (by omega) (by omega)]
  unfold gr mx
  by_cases h : e * p - d < 0
  · rw [if_pos (by omega), if_pos h]; rfl
  · rw [if_neg (by omega), if_neg h]; rfl
theorem impl_grow {p d s n e sp : Int} (h0 : 0 ≤ e) (h1 : e ≤ 4) (h2 : 1 ≤ p) (h3 : p ≤ 40) (h4 : 0 ≤ d) (h5 : d ≤ 20) (h6 : 0 ≤ sp) (h7 : sp ≤ 1000) : impl_Runner_grows.f p d s n sp e = some (sp + gr e p d) := by
  obtain ⟨a, b, c, f⟩ := gr_bounds h0 h1 h2 h3 h4 h5
  unfold impl_Runner_grows.f
  rw [w64 (x := e * p) (by omega) (by omega), w64 (x := e * p - d) (by omega) (by omega)]
  unfold gr at c f ⊢
  rw [w64 (by omega) (by omega)]

theorem rolls_same {p d s n x1 x2 : Int} (hr : RunOk p d s n) (hx : x2 ≤ 400) (k : Nat) : ∀ sp far t e, 0 ≤ sp → sp ≤ 1000 → 0 ≤ e → e ≤ 4 → impl_Runner_rolls.l0 k x1 x2 sp far t e p d s n = spec_Rolls.l0 k x1 x2 sp far t e p d s n := by
  obtain ⟨a1, a2, a3, a4, a5, a6, a7, a8⟩ := hr
  induction k with
  | zero => intro sp far t e _ _ _ _; simp only [impl_Runner_rolls.l0, spec_Rolls.l0]
  | succ k ih =>
    intro sp far t e h0 h1 h2 h3
    have e1 : wrap64 (n - 1) = n - 1 := w64 (by omega) (by omega)
    obtain ⟨_, _, b3, b4⟩ := gr_bounds h2 h3 a1 a2 a3 a4
    obtain ⟨_, _, c3, c4⟩ := gr_bounds (show 0 ≤ n - 1 by omega) (by omega) a1 a2 a3 a4
    simp only [impl_Runner_rolls.l0, spec_Rolls.l0, e1, spec_grow h2 h3 a1 a2 a3 a4, impl_grow h2 h3 a1 a2 a3 a4 h0 h1, spec_grow (show 0 ≤ n - 1 by omega) (by omega) a1 a2 a3 a4, impl_grow (show 0 ≤ n - 1 by omega) (by omega) a1 a2 a3 a4 h0 h1, Option.bind_some, w64 (x := sp + gr e p d) (by omega) (by omega), w64 (x := sp + gr (n - 1) p d) (by omega) (by omega)]
    by_cases g0 : sp < x2
    · rw [if_pos g0, if_pos g0]
      by_cases g1 : sp ≥ x1
      · rw [if_pos g1, if_pos g1]
        by_cases g2 : gr (n - 1) p d = 0
        · rw [if_pos (by omega), if_pos g2]
        · rw [if_neg (by omega), if_neg g2]
          exact ih _ _ _ _ (by omega) (by omega) (by omega) (by omega)
      · rw [if_neg g1, if_neg g1]
        by_cases g2 : gr e p d = 0
        · rw [if_pos (by omega), if_pos g2]
        · rw [if_neg (by omega), if_neg g2]
          exact ih _ _ _ _ (by omega) (by omega) h2 h3
    · rw [if_neg g0, if_neg g0]
theorem rolls_ends {p d s n x1 x2 : Int} (hr : RunOk p d s n) (hx : x2 ≤ 400) : ∀ (D : Nat) (sp far t e : Int), 0 ≤ sp → sp ≤ 1000 → 0 ≤ e → e ≤ 4 → x2 - sp ≤ D → ∃ r, Ev (fun k => spec_Rolls.l0 k x1 x2 sp far t e p d s n) r := by
  obtain ⟨a1, a2, a3, a4, a5, a6, a7, a8⟩ := hr
  have e1 : wrap64 (n - 1) = n - 1 := w64 (by omega) (by omega)
  intro D
  induction D with
  | zero =>
    intro sp far t e h0 h1 h2 h3 h4
    refine ex_succ ?_
    simp only [spec_Rolls.l0]
    exact ⟨_, ev_neg (by omega) (Ev.now _)⟩
  | succ D ih =>
    intro sp far t e h0 h1 h2 h3 h4
    obtain ⟨_, _, b3, b4⟩ := gr_bounds h2 h3 a1 a2 a3 a4
    obtain ⟨_, _, c3, c4⟩ := gr_bounds (show 0 ≤ n - 1 by omega) (by omega) a1 a2 a3 a4
    have q1 := spec_grow (s := s) (n := n) h2 h3 a1 a2 a3 a4
    have q2 := spec_grow (s := s) (n := n) (show 0 ≤ n - 1 by omega) (by omega) a1 a2 a3 a4
    have q3 : wrap64 (sp + gr e p d) = sp + gr e p d := w64 (by omega) (by omega)
    have q4 : wrap64 (sp + gr (n - 1) p d) = sp + gr (n - 1) p d := w64 (by omega) (by omega)
    by_cases g0 : sp < x2
    · by_cases g1 : sp ≥ x1
      · by_cases g2 : gr (n - 1) p d = 0
        · refine ex_succ ?_
          simp only [spec_Rolls.l0, e1, q1, q2, q3, q4, Option.bind_some]
          exact ⟨_, ev_pos g0 (ev_pos g1 (ev_pos g2 (Ev.now _)))⟩
        · obtain ⟨r, h⟩ := ih (sp + gr (n - 1) p d) (wrap64 (far + (sp + gr (n - 1) p d))) (wrap64 (t + 1)) (n - 1) (by omega) (by omega) (by omega) (by omega) (by omega)
          refine ⟨r, ev_succ ?_⟩
          simp only [spec_Rolls.l0, e1, q1, q2, q3, q4, Option.bind_some]
          exact ev_pos g0 (ev_pos g1 (ev_neg g2 h))
      · by_cases g2 : gr e p d = 0
        · refine ex_succ ?_
          simp only [spec_Rolls.l0, e1, q1, q2, q3, q4, Option.bind_some]
          exact ⟨_, ev_pos g0 (ev_neg g1 (ev_pos g2 (Ev.now _)))⟩
        · obtain ⟨r, h⟩ := ih (sp + gr e p d) (wrap64 (far + (sp + gr e p d))) (wrap64 (t + 1)) e (by omega) (by omega) h2 h3 (by omega)
          refine ⟨r, ev_succ ?_⟩
          simp only [spec_Rolls.l0, e1, q1, q2, q3, q4, Option.bind_some]
          exact ev_pos g0 (ev_neg g1 (ev_neg g2 h))
    · refine ex_succ ?_
      simp only [spec_Rolls.l0]
      exact ⟨_, ev_neg g0 (Ev.now _)⟩
theorem rolls_both (p d s n fail lift : Int) : ∃ r, Ev (fun k => spec_Rolls.f k p d s n fail lift) r ∧ Ev (fun k => impl_Rolls.f k p d s n fail lift) r := by
  simp only [spec_Rolls.f, impl_Rolls.f, spec_run_eq, impl_run_eq, impl_speedOk.f, impl_in_eq, spec_in_eq, Option.bind_some]
  have bad : Ev (fun k => spec_Rolls.j0 k fail lift true p d s n) (0, 0, false) := by
    refine ev_succ ?_
    simp only [spec_Rolls.j0]
    exact ev_pos (by trivial) (Ev.now _)
  by_cases h1 : RunOk p d s n
  · simp only [decide_eq_true h1]
    by_cases h2 : 0 ≤ fail ∧ fail ≤ 400
    · simp only [decide_eq_true h2]
      by_cases h3 : 1 ≤ lift ∧ lift ≤ 400
      · simp only [decide_eq_true h3]
        have h1' := h1
        obtain ⟨a1, a2, a3, a4, a5, a6, a7, a8⟩ := h1'
        obtain ⟨r, hr⟩ := rolls_ends (x1 := fail) (x2 := lift) h1 (by omega) 400 0 0 0 n (by omega) (by omega) (by omega) (by omega) (by omega)
        refine ⟨r, ev_pos (by trivial) (ev_pos (by trivial) (ev_succ ?_)), ev_pos (by trivial) (ev_pos (by trivial) (ev_pos (by trivial) ?_))⟩
        · simp only [spec_Rolls.j0]
          exact ev_neg (by decide) hr
        · refine Ev.bind (a := r) ?_ (Ev.now _)
          simp only [impl_Runner_rolls.f, rolls_same h1 (show lift ≤ 400 by omega) _ 0 0 0 n (by omega) (by omega) (by omega) (by omega)]
          exact hr
      · simp only [decide_eq_false h3]
        exact ⟨_, ev_pos (by trivial) (ev_pos (by trivial) bad), ev_pos (by trivial) (ev_pos (by trivial) (ev_neg (by decide) (Ev.now _)))⟩
    · simp only [decide_eq_false h2]
      exact ⟨_, ev_pos (by trivial) (ev_neg (by decide) bad), ev_pos (by trivial) (ev_neg (by decide) (Ev.now _))⟩
  · simp only [decide_eq_false h1]
    exact ⟨_, ev_neg (by decide) bad, ev_neg (by decide) (Ev.now _)⟩

theorem FnExactRolls : laws_FnExactRolls.PureR := by
  intro p d s n fail lift _ _ _ _ _ _
  refine Ev.rounds ?_
  obtain ⟨r, h1, h2⟩ := rolls_both p d s n fail lift
  simp only [laws_FnExactRolls.f, laws_toRunner.f, Option.bind_some]
  exact Ev.bind h1 (Ev.bind h2 (ev_pos (by trivial) (ev_pos (by trivial) (ev_neg (by simp) (Ev.now _)))))

end Go.Proofs.Ytceepcjpelcbgaa.Pure
