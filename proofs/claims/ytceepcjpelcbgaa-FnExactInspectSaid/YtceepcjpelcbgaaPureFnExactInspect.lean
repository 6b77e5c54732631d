/- Proved here: the program's and the reference's Inspect are the same function of the crack, the least and the part; no condition. -/
import Derived.Test.YtceepcjpelcbgaaPureDefFnExactInspect
namespace Go.Proofs.Ytceepcjpelcbgaa.Pure
open Go.RowKit Go.Proofs.Ytceepcjpelcbgaa.PFnExactInspect Go.Proofs.YtceepcjpelcbgaaW.PrintWords Go.Proofs.YtceepcjpelcbgaaW.PrintLast Go.Proofs.YtceepcjpelcbgaaW.PrintMore
set_option linter.unusedVariables false
set_option linter.unusedSimpArgs false

theorem ev_pos {c : Prop} [Decidable c] {α : Type} {A B : Nat → Option α} {r : α} (h : c) (k : Ev A r) : Ev (fun n => if c then A n else B n) r := by
  simpa only [if_pos h] using k
theorem ev_neg {c : Prop} [Decidable c] {α : Type} {A B : Nat → Option α} {r : α} (h : ¬ c) (k : Ev B r) : Ev (fun n => if c then A n else B n) r := by
  simpa only [if_neg h] using k
theorem ev_succ {α : Type} {g : Nat → Option α} {r : α} (h : Ev (fun k => g (k + 1)) r) : Ev g r := Ev.step (fun _ => rfl) h
theorem ex_succ {α : Type} {g : Nat → Option α} (h : ∃ r, Ev (fun k => g (k + 1)) r) : ∃ r, Ev g r := by
  obtain ⟨r, h⟩ := h
  exact ⟨r, ev_succ h⟩
theorem ev_one {α : Type} {g : Nat → Option α} {r q : α} (h : Ev g r) (h' : Ev g q) : r = q := by
  obtain ⟨K, hK⟩ := h
  obtain ⟨L, hL⟩ := h'
  have a := hK (max K L) (Nat.le_max_left _ _)
  have b := hL (max K L) (Nat.le_max_right _ _)
  exact Option.some.inj (a.symm.trans b)
theorem ev_bool {α : Type} {A B : Nat → Option α} {r : α} (b : Bool) (h1 : b = true → Ev A r) (h2 : b = false → Ev B r) : Ev (fun n => if b = true then A n else B n) r := by
  cases b with
  | true => exact ev_pos (by trivial) (h1 rfl)
  | false => exact ev_neg (by decide) (h2 rfl)
theorem bool_eq_of_iff {a b : Bool} {p : Prop} (h : a = true ↔ p) (h' : b = true ↔ p) : a = b := by
  rw [Bool.eq_iff_iff]
  exact h.trans h'.symm
theorem w64 {x : Int} (h0 : -9223372036854775808 ≤ x) (h1 : x ≤ 9223372036854775807) : wrap64 x = x := by
  unfold wrap64
  omega
theorem w64_succ {n m : Nat} (h : n < m) (hm : m ≤ 9223372036854775807) : wrap64 ((n : Int) + 1) = ((n + 1 : Nat) : Int) := by
  unfold wrap64
  omega
theorem rd_nat (l : List Int) (n : Nat) : rd l (n : Int) = l.getD n 0 := by
  unfold rd
  rw [Int.toNat_natCast]
theorem take_set_succ {α : Type} (d : α) {x0 x3 : List α} {n : Nat} (h : n < x0.length) (hl : x3.length = x0.length) (ht : x3.take n = x0.take n) : (x3.set n (x0.getD n d)).take (n + 1) = x0.take (n + 1) := by
  apply List.ext_getElem?
  intro i
  simp only [List.getElem?_take, List.getElem?_set]
  by_cases hi : i < n + 1
  · rw [if_pos hi, if_pos hi]
    by_cases he : n = i
    · subst he
      rw [if_pos rfl, if_pos (by omega), List.getD_eq_getElem?_getD, List.getElem?_eq_getElem h]
      rfl
    · rw [if_neg he]
      have := congrArg (fun l => l[i]?) ht
      simpa only [List.getElem?_take, if_pos (show i < n by omega)] using this
  · rw [if_neg hi, if_neg hi]
theorem u8_bounds {l : List Int} (h : ∀ x ∈ l, 0 ≤ x ∧ x ≤ 255) (n : Nat) : 0 ≤ l.getD n 0 ∧ l.getD n 0 ≤ 255 := by
  rw [List.getD_eq_getElem?_getD]
  cases e : l[n]? with
  | none => simp
  | some x =>
    exact h x (List.mem_of_getElem? e)

theorem impl_in_eq (a b c : Int) : impl_in.f a b c = some (decide (b ≤ a ∧ a ≤ c)) := by
  unfold impl_in.f
  split
  · congr 1
    rw [decide_eq_decide]
    omega
  · congr 1
    symm
    rw [decide_eq_false_iff_not]
    omega

theorem spec_in_eq (a b c : Int) : spec_l1In.f a b c = some (decide (b ≤ a ∧ a ≤ c)) := by
  unfold spec_l1In.f
  split
  · congr 1
    rw [decide_eq_decide]
    omega
  · congr 1
    symm
    rw [decide_eq_false_iff_not]
    omega

theorem ceil_eq (y : Int) (h0 : 0 ≤ y) (h1 : y ≤ 1000000000000) : impl_ceilOver.f y 1000 = some ((y + 999) / 1000) := by
  unfold impl_ceilOver.f impl_floorOver.f
  rw [w64 (x := -y) (by omega) (by omega), if_neg (by decide), Int.neg_tmod, Int.neg_tdiv, Int.tmod_eq_emod_of_nonneg h0, Int.tdiv_eq_ediv_of_nonneg h0]
  by_cases hm : y % 1000 = 0
  · rw [if_pos (by omega)]
    simp only [Option.bind_some]
    rw [w64 (x := -(y / 1000)) (by omega) (by omega), w64 (by omega) (by omega)]
    congr 1
    omega
  · rw [if_neg (by omega), if_pos (by
      rw [decide_eq_true (show -y < 0 by omega)]
      rfl)]
    simp only [Option.bind_some]
    rw [w64 (x := -(y / 1000)) (by omega) (by omega), w64 (x := -(y / 1000) - 1) (by omega) (by omega), w64 (by omega) (by omega)]
    congr 1
    omega

def CrOk (a b c : Int) : Prop := 0 ≤ a ∧ a ≤ b ∧ b ≤ 1000000 ∧ 1 ≤ c ∧ c ≤ 100
instance (a b c : Int) : Decidable (CrOk a b c) := by unfold CrOk; infer_instance
theorem spec_crack_eq (a b c : Int) : spec_l6Crack.f a b c = some (decide (CrOk a b c)) := by
  simp only [spec_l6Crack.f, spec_in_eq, Option.bind_some, decide_eq_true_eq]
  repeat' split
  all_goals first | (congr 1; rw [decide_eq_decide]; unfold CrOk; omega) | (congr 1; symm; rw [decide_eq_false_iff_not]; unfold CrOk; omega)
theorem impl_crack_eq (a b c : Int) : impl_crackOk.f a b c = some (decide (CrOk a b c)) := by
  simp only [impl_crackOk.f, impl_in_eq, Option.bind_some]
  repeat' split
  all_goals first | (congr 1; rw [decide_eq_decide]; unfold CrOk; omega) | (congr 1; symm; rw [decide_eq_false_iff_not]; unfold CrOk; omega)
theorem mul_mid {x g : Int} (hx : 0 ≤ x) (hx' : x ≤ 1000000) (hg : 1 ≤ g) (hg' : g ≤ 100) : 0 ≤ x * g ∧ x * g ≤ 100000000 := by
  have a := Int.mul_nonneg hx (show 0 ≤ g by omega)
  have b : x * g ≤ 1000000 * 100 := Int.mul_le_mul hx' hg' (by omega) (by omega)
  omega
theorem flights_same {lim g : Int} (hl : lim ≤ 1000000) (hg : 1 ≤ g) (hg' : g ≤ 100) (k : Nat) : ∀ i x, 0 ≤ i → i ≤ 5000 → 0 ≤ x → x ≤ lim → impl_Flights.l0 k i x lim g = spec_Flights.l0 k (i + 1) x lim g := by
  induction k with
  | zero => intro i x _ _ _ _; simp only [impl_Flights.l0, spec_Flights.l0]
  | succ k ih =>
    intro i x h0 h1 h2 h3
    obtain ⟨a1, a2⟩ := mul_mid h2 (show x ≤ 1000000 by omega) hg hg'
    have e1 : wrap64 (x * g) = x * g := w64 (by omega) (by omega)
    have e2 : impl_ceilOver.f (x * g) 1000 = some ((x * g + 999) / 1000) := ceil_eq _ (by omega) (by omega)
    have e3 : wrap64 (x * g + 999) = x * g + 999 := w64 (by omega) (by omega)
    have e4 : Int.tdiv (x * g + 999) 1000 = (x * g + 999) / 1000 := Int.tdiv_eq_ediv_of_nonneg (by omega)
    have e5 : wrap64 ((x * g + 999) / 1000) = (x * g + 999) / 1000 := w64 (by omega) (by omega)
    have e6 : wrap64 (x + (x * g + 999) / 1000) = x + (x * g + 999) / 1000 := w64 (by omega) (by omega)
    have e7 : wrap64 (i + 1) = i + 1 := w64 (by omega) (by omega)
    have e8 : wrap64 (i + 1 + 1) = i + 1 + 1 := w64 (by omega) (by omega)
    simp only [impl_Flights.l0, spec_Flights.l0, e1, e2, e3, e4, e5, e6, e7, e8, Option.bind_some]
    by_cases g0 : i < 5000
    · rw [if_pos g0, if_pos (show i + 1 ≤ 5000 by omega)]
      by_cases g1 : x + (x * g + 999) / 1000 > lim
      · rw [if_pos g1, if_pos g1]
      · rw [if_neg g1, if_neg g1]
        exact ih (i + 1) _ (by omega) (by omega) (by omega) (by omega)
    · rw [if_neg g0, if_neg (show ¬ i + 1 ≤ 5000 by omega)]
theorem flights_ends {lim g : Int} (hl : lim ≤ 1000000) (hg : 1 ≤ g) (hg' : g ≤ 100) : ∀ (D : Nat) (i x : Int), 0 ≤ i → i ≤ 5001 → 5001 - i ≤ D → 0 ≤ x → x ≤ lim → ∃ r, Ev (fun k => spec_Flights.l0 k i x lim g) r ∧ 0 ≤ r.1 ∧ r.1 ≤ 5000 ∧ (1 ≤ i → r.2 = true → 1 ≤ r.1) := by
  intro D
  induction D with
  | zero =>
    intro i x h0 h1 h2 h3 h4
    refine ⟨(0, false), ev_succ ?_, by simp, by simp, by simp⟩
    simp only [spec_Flights.l0]
    exact ev_neg (by omega) (Ev.now _)
  | succ D ih =>
    intro i x h0 h1 h2 h3 h4
    obtain ⟨a1, a2⟩ := mul_mid h3 (show x ≤ 1000000 by omega) hg hg'
    have e1 : wrap64 (x * g) = x * g := w64 (by omega) (by omega)
    have e3 : wrap64 (x * g + 999) = x * g + 999 := w64 (by omega) (by omega)
    have e4 : Int.tdiv (x * g + 999) 1000 = (x * g + 999) / 1000 := Int.tdiv_eq_ediv_of_nonneg (by omega)
    have e5 : wrap64 ((x * g + 999) / 1000) = (x * g + 999) / 1000 := w64 (by omega) (by omega)
    have e6 : wrap64 (x + (x * g + 999) / 1000) = x + (x * g + 999) / 1000 := w64 (by omega) (by omega)
    have e7 : wrap64 (i + 1) = i + 1 := w64 (by omega) (by omega)
    by_cases g0 : i ≤ 5000
    · by_cases g1 : x + (x * g + 999) / 1000 > lim
      · refine ⟨(i, true), ev_succ ?_, h0, g0, fun h _ => h⟩
        simp only [spec_Flights.l0, e1, e3, e4, e5, e6, e7]
        exact ev_pos g0 (ev_pos g1 (Ev.now _))
      · obtain ⟨r, hr, b1, b2, b3⟩ := ih (i + 1) (x + (x * g + 999) / 1000) (by omega) (by omega) (by omega) (by omega) (by omega)
        refine ⟨r, ev_succ ?_, b1, b2, fun h => b3 (by omega)⟩
        simp only [spec_Flights.l0, e1, e3, e4, e5, e6, e7]
        exact ev_pos g0 (ev_neg g1 hr)
    · refine ⟨(0, false), ev_succ ?_, by simp, by simp, by simp⟩
      simp only [spec_Flights.l0]
      exact ev_neg g0 (Ev.now _)
theorem flights_both (a b c : Int) : ∃ r, Ev (fun k => spec_Flights.f k a b c) r ∧ Ev (fun k => impl_Flights.f k a b c) r ∧ 0 ≤ r.1 ∧ r.1 ≤ 5000 ∧ (r.2 = true → 1 ≤ r.1) := by
  simp only [spec_Flights.f, impl_Flights.f, spec_crack_eq, impl_crack_eq, Option.bind_some]
  by_cases h : CrOk a b c
  · simp only [decide_eq_true h]
    obtain ⟨h1, h2, h3, h4, h5⟩ := h
    obtain ⟨r, hr, b1, b2, b3⟩ := flights_ends h3 h4 h5 5001 1 a (by omega) (by omega) (by omega) h1 h2
    refine ⟨r, ev_pos (by trivial) hr, ev_pos (by trivial) ?_, b1, b2, b3 (by omega)⟩
    simp only [flights_same h3 h4 h5 _ 0 a (by omega) (by omega) h1 h2, Int.zero_add]
    exact hr
  · simp only [decide_eq_false h]
    exact ⟨(0, false), ev_neg (by decide) (Ev.now _), ev_neg (by decide) (Ev.now _), by simp, by simp, by simp⟩

theorem insp_both (a b c least part : Int) : ∃ r, Ev (fun k => spec_Inspect.f k a b c least part) r ∧ Ev (fun k => impl_Inspect.f k a b c least part) r := by
  simp only [spec_Inspect.f, impl_Inspect.f, spec_crack_eq, impl_crack_eq, impl_in_eq, spec_in_eq, Option.bind_some]
  have bad1 : Ev (fun k => spec_Inspect.j0 k least part true a b c) (0, false) := by
    refine ev_succ ?_
    simp only [spec_Inspect.j0]
    exact ev_pos (by trivial) (Ev.now _)
  have bad2 : Ev (fun k => impl_Inspect.j0 k least part true a b c) (0, false) := by
    refine ev_succ ?_
    simp only [impl_Inspect.j0]
    exact ev_pos (by trivial) (Ev.now _)
  by_cases h1 : CrOk a b c
  · simp only [decide_eq_true h1]
    by_cases h2 : 1 ≤ least ∧ least ≤ b
    · simp only [decide_eq_true h2]
      by_cases h3 : 1 ≤ part ∧ part ≤ 20
      · simp only [decide_eq_true h3]
        obtain ⟨r, hs, hi, b1, b2, b3⟩ := flights_both least b c
        obtain ⟨n, ok⟩ := r
        cases ok with
        | false =>
          refine ⟨(0, false), ev_pos (by trivial) (ev_pos (by trivial) (ev_succ ?_)), ev_pos (by trivial) (ev_pos (by trivial) (ev_succ ?_))⟩
          · simp only [spec_Inspect.j0]
            exact ev_neg (by decide) (Ev.bind hs (ev_neg (by simp) (Ev.now _)))
          · simp only [impl_Inspect.j0]
            exact ev_neg (by decide) (Ev.bind hi (ev_neg (by simp) (Ev.now _)))
        | true =>
          by_cases h4 : wrap64 (Int.tdiv (wrap64 (n - 1)) part) = 0
          · refine ⟨(0, false), ev_pos (by trivial) (ev_pos (by trivial) (ev_succ ?_)), ev_pos (by trivial) (ev_pos (by trivial) (ev_succ ?_))⟩
            · simp only [spec_Inspect.j0]
              exact ev_neg (by decide) (Ev.bind hs (ev_pos (by trivial) (ev_neg (by omega) (ev_pos h4 (Ev.now _)))))
            · simp only [impl_Inspect.j0]
              exact ev_neg (by decide) (Ev.bind hi (ev_pos (by trivial) (ev_neg (by omega) (ev_pos h4 (Ev.now _)))))
          · refine ⟨(wrap64 (Int.tdiv (wrap64 (n - 1)) part), true), ev_pos (by trivial) (ev_pos (by trivial) (ev_succ ?_)), ev_pos (by trivial) (ev_pos (by trivial) (ev_succ ?_))⟩
            · simp only [spec_Inspect.j0]
              exact ev_neg (by decide) (Ev.bind hs (ev_pos (by trivial) (ev_neg (by omega) (ev_neg h4 (Ev.now _)))))
            · simp only [impl_Inspect.j0]
              exact ev_neg (by decide) (Ev.bind hi (ev_pos (by trivial) (ev_neg (by omega) (ev_neg h4 (Ev.now _)))))
      · simp only [decide_eq_false h3]
        exact ⟨_, ev_pos (by trivial) (ev_pos (by trivial) bad1), ev_pos (by trivial) (ev_pos (by trivial) bad2)⟩
    · simp only [decide_eq_false h2]
      exact ⟨_, ev_pos (by trivial) (ev_neg (by decide) bad1), ev_pos (by trivial) (ev_neg (by decide) bad2)⟩
  · simp only [decide_eq_false h1]
    exact ⟨_, ev_neg (by decide) bad1, ev_neg (by decide) bad2⟩
theorem FnExactInspect : laws_FnExactInspect.PureR := by
  intro a b c least part _ _ _ _ _
  refine Ev.rounds ?_
  obtain ⟨r, h1, h2⟩ := insp_both a b c least part
  simp only [laws_FnExactInspect.f, laws_toCrack.f, Option.bind_some]
  exact Ev.bind h1 (Ev.bind h2 (ev_pos (by trivial) (ev_neg (by simp) (Ev.now _))))

end Go.Proofs.Ytceepcjpelcbgaa.Pure
