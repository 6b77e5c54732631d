/- Proved here: the program's and the reference's test of a runner are the same function of its four numbers; no condition. -/
import Derived.Test.YtceepcjpelcbgaaPureDefFnExactRunnerOk
namespace Go.Proofs.Ytceepcjpelcbgaa.Pure
open Go.RowKit Go.Proofs.Ytceepcjpelcbgaa.PFnExactRunnerOk Go.Proofs.YtceepcjpelcbgaaW.PrintWords Go.Proofs.YtceepcjpelcbgaaW.PrintLast Go.Proofs.YtceepcjpelcbgaaW.PrintMore
set_option linter.unusedVariables false
set_option linter.unusedSimpArgs false

theorem ev_pos {c : Prop} [Decidable c] {α : Type} {A B : Nat → Option α} {r : α} (h : c) (k : Ev A r) : Ev (fun n => if c then A n else B n) r := by
  simpa only [if_pos h] using k
theorem ev_neg {c : Prop} [Decidable c] {α : Type} {A B : Nat → Option α} {r : α} (h : ¬ c) (k : Ev B r) : Ev (fun n => if c then A n else B n) r := by
  simpa only [if_neg h] using k
theorem ev_succ {α : Type} {g : Nat → Option α} {r : α} (h : Ev (fun k => g (k + 1)) r) : Ev g r := Ev.step (fun _ => rfl) h
theorem ex_succ {α : Type} {g : Nat → Option α} (h : ∃ r, Ev (fun k => g (k + 1)) r) : ∃ r, Ev g r := by
  obtain ⟨r, h⟩ := h
  exact ⟨r, ev_succ h⟩
theorem ev_one {α : Type} {g : Nat → Option α} {r q : α} (h : Ev g r) (h' : Ev g q) : r = q := by
  obtain ⟨K, hK⟩ := h
  obtain ⟨L, hL⟩ := h'
  have a := hK (max K L) (Nat.le_max_left _ _)
  have b := hL (max K L) (Nat.le_max_right _ _)
  exact Option.some.inj (a.symm.trans b)
theorem ev_bool {α : Type} {A B : Nat → Option α} {r : α} (b : Bool) (h1 : b = true → Ev A r) (h2 : b = false → Ev B r) : Ev (fun n => if b = true then A n else B n) r := by
  cases b with
  | true => exact ev_pos (by trivial) (h1 rfl)
  | false => exact ev_neg (by decide) (h2 rfl)
theorem bool_eq_of_iff {a b : Bool} {p : Prop} (h : a = true ↔ p) (h' : b = true ↔ p) : a = b := by
  rw [Bool.eq_iff_iff]
  exact h.trans h'.symm
theorem w64 {x : Int} (h0 : -9223372036854775808 ≤ x) (h1 : x ≤ 9223372036854775807) : wrap64 x = x := by
  unfold wrap64
  omega
theorem w64_succ {n m : Nat} (h : n < m) (hm : m ≤ 9223372036854775807) : wrap64 ((n : Int) + 1) = ((n + 1 : Nat) : Int) := by
  unfold wrap64
  omega
theorem rd_nat (l : List Int) (n : Nat) : rd l (n : Int) = l.getD n 0 := by
  unfold rd
  rw [Int.toNat_natCast]
theorem take_set_succ {α : Type} (d : α) {x0 x3 : List α} {n : Nat} (h : n < x0.length) (hl : x3.length = x0.length) (ht : x3.take n = x0.take n) : (x3.set n (x0.getD n d)).take (n + 1) = x0.take (n + 1) := by
  apply List.ext_getElem?
  intro i
  simp only [List.getElem?_take, List.getElem?_set]
  by_cases hi : i < n + 1
  · rw [if_pos hi, if_pos hi]
    by_cases he : n = i
    · subst he
      rw [if_pos rfl, if_pos (by omega), List.getD_eq_getElem?_getD, List.getElem?_eq_getElem h]
      rfl
    · rw [if_neg he]
      have := congrArg (fun l => l[i]?) ht
      simpa only [List.getElem?_take, if_pos (show i < n by omega)] using this
  · rw [if_neg hi, if_neg hi]
theorem u8_bounds {l : List Int} (h : ∀ x ∈ l, 0 ≤ x ∧ x ≤ 255) (n : Nat) : 0 ≤ l.getD n 0 ∧ l.getD n 0 ≤ 255 := by
  rw [List.getD_eq_getElem?_getD]
  cases e : l[n]? with
  | none => simp
  | some x =>
    exact h x (List.mem_of_getElem? e)

theorem impl_in_eq (a b c : Int) : impl_in.f a b c = some (decide (b ≤ a ∧ a ≤ c)) := by
  unfold impl_in.f
  split
  · congr 1
    rw [decide_eq_decide]
    omega
  · congr 1
    symm
    rw [decide_eq_false_iff_not]
    omega

theorem spec_in_eq (a b c : Int) : spec_l1In.f a b c = some (decide (b ≤ a ∧ a ≤ c)) := by
  unfold spec_l1In.f
  split
  · congr 1
    rw [decide_eq_decide]
    omega
  · congr 1
    symm
    rw [decide_eq_false_iff_not]
    omega

def RunOk (a b c d : Int) : Prop := 1 ≤ a ∧ a ≤ 40 ∧ 0 ≤ b ∧ b ≤ 20 ∧ 1 ≤ c ∧ c ≤ 40 ∧ 2 ≤ d ∧ d ≤ 4
instance (a b c d : Int) : Decidable (RunOk a b c d) := by unfold RunOk; infer_instance
theorem spec_run_eq (a b c d : Int) : spec_RunnerOk.f a b c d = some (decide (RunOk a b c d)) := by
  simp only [spec_RunnerOk.f, spec_in_eq, Option.bind_some, decide_eq_true_eq]
  repeat' split
  all_goals first | (congr 1; rw [decide_eq_decide]; unfold RunOk; omega) | (congr 1; symm; rw [decide_eq_false_iff_not]; unfold RunOk; omega)
theorem impl_run_eq (a b c d : Int) : impl_RunnerOk.f a b c d = some (decide (RunOk a b c d)) := by
  simp only [impl_RunnerOk.f, impl_in_eq, Option.bind_some, decide_eq_true_eq]
  repeat' split
  all_goals first | (congr 1; rw [decide_eq_decide]; unfold RunOk; omega) | (congr 1; symm; rw [decide_eq_false_iff_not]; unfold RunOk; omega)

theorem FnExactRunnerOk : laws_FnExactRunnerOk.PureR := by
  intro a b c d _ _ _ _
  simp only [laws_FnExactRunnerOk.f, laws_toRunner.f, Option.bind_some, spec_run_eq, impl_run_eq]
  simp

end Go.Proofs.Ytceepcjpelcbgaa.Pure
