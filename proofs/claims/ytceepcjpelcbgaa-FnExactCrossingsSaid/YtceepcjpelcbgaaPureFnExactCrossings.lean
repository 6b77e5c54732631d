/- Proved here: the pure statement of the law FnExactCrossings; no condition. -/
import Derived.Test.YtceepcjpelcbgaaPureDefFnExactCrossings
namespace Go.Proofs.Ytceepcjpelcbgaa.Pure
open Go.RowKit Go.Proofs.Ytceepcjpelcbgaa.PFnExactCrossings Go.Proofs.YtceepcjpelcbgaaW.PrintWords Go.Proofs.YtceepcjpelcbgaaW.PrintLast Go.Proofs.YtceepcjpelcbgaaW.PrintMore
set_option linter.unusedVariables false
set_option linter.unusedSimpArgs false

theorem ev_pos {c : Prop} [Decidable c] {α : Type} {A B : Nat → Option α} {r : α} (h : c) (k : Ev A r) : Ev (fun n => if c then A n else B n) r := by
  simpa only [if_pos h] using k
theorem ev_neg {c : Prop} [Decidable c] {α : Type} {A B : Nat → Option α} {r : α} (h : ¬ c) (k : Ev B r) : Ev (fun n => if c then A n else B n) r := by
  simpa only [if_neg h] using k
theorem ev_succ {α : Type} {g : Nat → Option α} {r : α} (h : Ev (fun k => g (k + 1)) r) : Ev g r := Ev.step (fun _ => rfl) h
theorem ex_succ {α : Type} {g : Nat → Option α} (h : ∃ r, Ev (fun k => g (k + 1)) r) : ∃ r, Ev g r := by
  obtain ⟨r, h⟩ := h
  exact ⟨r, ev_succ h⟩
theorem ev_one {α : Type} {g : Nat → Option α} {r q : α} (h : Ev g r) (h' : Ev g q) : r = q := by
  obtain ⟨K, hK⟩ := h
  obtain ⟨L, hL⟩ := h'
  have a := hK (max K L) (Nat.le_max_left _ _)
  have b := hL (max K L) (Nat.le_max_right _ _)
  exact Option.some.inj (a.symm.trans b)
theorem ev_bool {α : Type} {A B : Nat → Option α} {r : α} (b : Bool) (h1 : b = true → Ev A r) (h2 : b = false → Ev B r) : Ev (fun n => if b = true then A n else B n) r := by
  cases b with
  | true => exact ev_pos (by trivial) (h1 rfl)
  | false => exact ev_neg (by decide) (h2 rfl)
theorem bool_eq_of_iff {a b : Bool} {p : Prop} (h : a = true ↔ p) (h' : b = true ↔ p) : a = b := by
  rw [Bool.eq_iff_iff]
  exact h.trans h'.symm
theorem w64 {x : Int} (h0 : -9223372036854775808 ≤ x) (h1 : x ≤ 9223372036854775807) : wrap64 x = x := by
  unfold wrap64
  omega
theorem w64_succ {n m : Nat} (h : n < m) (hm : m ≤ 9223372036854775807) : wrap64 ((n : Int) + 1) = ((n + 1 : Nat) : Int) := by
  unfold wrap64
  omega
theorem rd_nat (l : List Int) (n : Nat) : rd l (n : Int) = l.getD n 0 := by
  unfold rd
  rw [Int.toNat_natCast]
theorem take_set_succ {α : Type} (d : α) {x0 x3 : List α} {n : Nat} (h : n < x0.length) (hl : x3.length = x0.length) (ht : x3.take n = x0.take n) : (x3.set n (x0.getD n d)).take (n + 1) = x0.take (n + 1) := by
  apply List.ext_getElem?
  intro i
  simp only [List.getElem?_take, List.getElem?_set]
  by_cases hi : i < n + 1
  · rw [if_pos hi, if_pos hi]
    by_cases he : n = i
    · subst he
      rw [if_pos rfl, if_pos (by omega), List.getD_eq_getElem?_getD, List.getElem?_eq_getElem h]
      rfl
    · rw [if_neg he]
      have := congrArg (fun l => l[i]?) ht
      simpa only [List.getElem?_take, if_pos (show i < n by omega)] using this
  · rw [if_neg hi, if_neg hi]
theorem u8_bounds {l : List Int} (h : ∀ x ∈ l, 0 ≤ x ∧ x ≤ 255) (n : Nat) : 0 ≤ l.getD n 0 ∧ l.getD n 0 ≤ 255 := by
  rw [List.getD_eq_getElem?_getD]
  cases e : l[n]? with
  | none => simp
  | some x =>
    exact h x (List.mem_of_getElem? e)

theorem toIntS_loop (x0 : List Int) (hx : x0.length ≤ 9223372036854775807) : ∀ (d n : Nat) (x3 : List Int), n + d = x0.length → x3.length = x0.length → x3.take n = x0.take n → Ev (fun k => laws_toIntS.l0 k x0 x3 (n : Int)) x0 := by
  intro d
  induction d with
  | zero =>
    intro n x3 hn hl ht
    refine ev_succ ?_
    simp only [laws_toIntS.l0]
    refine ev_neg (by omega) ?_
    have e : x3 = x0 := by rw [← List.take_of_length_le (l := x3) (i := n) (by omega), ht, List.take_of_length_le (by omega)]
    rw [e]
    exact Ev.now _
  | succ d ih =>
    intro n x3 hn hl ht
    refine ev_succ ?_
    simp only [laws_toIntS.l0]
    refine ev_pos (by omega) (ev_pos (by omega) (ev_pos (by omega) ?_))
    rw [rd_nat, Int.toNat_natCast, w64_succ (m := x0.length) (by omega) hx]
    exact ih (n + 1) _ (by omega) (by simpa using hl) (take_set_succ 0 (by omega) hl ht)
theorem toIntS_ev (l : List Int) (h : l.length ≤ 35184372088832) : Ev (fun k => laws_toIntS.f k l) l := by
  unfold laws_toIntS.f
  refine ev_pos (by omega) (ev_pos (by omega) ?_)
  exact toIntS_loop l (by omega) l.length 0 _ (by omega) (by simp) (by simp)

theorem eqIntS_loop (x0 : List Int) (hx : x0.length ≤ 9223372036854775807) : ∀ (d n : Nat), n + d = x0.length → Ev (fun k => laws_eqIntS.l0 k x0 x0 (n : Int)) true := by
  intro d
  induction d with
  | zero =>
    intro n hn
    refine ev_succ ?_
    simp only [laws_eqIntS.l0]
    exact ev_neg (by omega) (Ev.now _)
  | succ d ih =>
    intro n hn
    refine ev_succ ?_
    simp only [laws_eqIntS.l0]
    refine ev_pos (by omega) (ev_pos (by omega) (ev_pos (by omega) (ev_pos (by trivial) ?_)))
    rw [w64_succ (m := x0.length) (by omega) hx]
    exact ih (n + 1) (by omega)
theorem eqIntS_ev (l : List Int) (h : l.length ≤ 9223372036854775807) : Ev (fun k => laws_eqIntS.f k l l) true := by
  unfold laws_eqIntS.f
  exact ev_pos (by trivial) (eqIntS_loop l h l.length 0 (by omega))

def AllIn (l : List Int) (lo hi : Int) : Prop := ∀ n, n < l.length → lo ≤ l.getD n 0 ∧ l.getD n 0 ≤ hi
def Rise (l : List Int) : Prop := ∀ n, n + 1 < l.length → l.getD n 0 < l.getD (n + 1) 0

theorem impl_in_eq (a b c : Int) : impl_in.f a b c = some (decide (b ≤ a ∧ a ≤ c)) := by
  unfold impl_in.f
  split
  · congr 1
    rw [decide_eq_decide]
    omega
  · congr 1
    symm
    rw [decide_eq_false_iff_not]
    omega

theorem spec_in_eq (a b c : Int) : spec_l1In.f a b c = some (decide (b ≤ a ∧ a ≤ c)) := by
  unfold spec_l1In.f
  split
  · congr 1
    rw [decide_eq_decide]
    omega
  · congr 1
    symm
    rw [decide_eq_false_iff_not]
    omega

theorem spec_all_loop (l : List Int) (lo hi : Int) (hx : l.length ≤ 9223372036854775807) : ∀ (d n : Nat), n + d = l.length → (∀ m, m < n → lo ≤ l.getD m 0 ∧ l.getD m 0 ≤ hi) → ∃ b, Ev (fun k => spec_l1All.l0 k l lo hi (n : Int)) b ∧ (b = true ↔ AllIn l lo hi) := by
  intro d
  induction d with
  | zero =>
    intro n hn hm
    refine ⟨true, ?_, ⟨fun _ m h => hm m (by omega), fun _ => rfl⟩⟩
    refine ev_succ ?_
    simp only [spec_l1All.l0]
    exact ev_neg (by omega) (Ev.now _)
  | succ d ih =>
    intro n hn hm
    by_cases h : lo ≤ l.getD n 0 ∧ l.getD n 0 ≤ hi
    · obtain ⟨b, hb, hiff⟩ := ih (n + 1) (by omega) (fun m hm' => by
        by_cases e : m = n
        · subst e; exact h
        · exact hm m (by omega))
      refine ⟨b, ?_, hiff⟩
      refine ev_succ ?_
      simp only [spec_l1All.l0, spec_in_eq, Option.bind_some]
      refine ev_pos (by omega) (ev_pos (by omega) (ev_pos (by rw [rd_nat]; simpa using h) ?_))
      rw [w64_succ (m := l.length) (by omega) hx]
      exact hb
    · refine ⟨false, ?_, ⟨fun h' => (Bool.false_ne_true h').elim, fun h' => absurd (h' n (by omega)) h⟩⟩
      refine ev_succ ?_
      simp only [spec_l1All.l0, spec_in_eq, Option.bind_some]
      exact ev_pos (by omega) (ev_pos (by omega) (ev_neg (by rw [rd_nat]; simpa using h) (Ev.now _)))
theorem spec_all_ev (l : List Int) (lo hi : Int) (hx : l.length ≤ 9223372036854775807) : ∃ b, Ev (fun k => spec_l1All.f k l lo hi) b ∧ (b = true ↔ AllIn l lo hi) := by
  unfold spec_l1All.f
  exact spec_all_loop l lo hi hx l.length 0 (by omega) (fun m h => by omega)

theorem impl_all_loop (l : List Int) (lo hi : Int) (hx : l.length ≤ 9223372036854775807) : ∀ (d n : Nat), n + d = l.length → (∀ m, m < n → lo ≤ l.getD m 0 ∧ l.getD m 0 ≤ hi) → ∃ b, Ev (fun k => impl_allIn.l0 k lo hi l (l.length : Int) (n : Int)) b ∧ (b = true ↔ AllIn l lo hi) := by
  intro d
  induction d with
  | zero =>
    intro n hn hm
    refine ⟨true, ?_, ⟨fun _ m h => hm m (by omega), fun _ => rfl⟩⟩
    refine ev_succ ?_
    simp only [impl_allIn.l0]
    exact ev_neg (by omega) (Ev.now _)
  | succ d ih =>
    intro n hn hm
    by_cases h : lo ≤ l.getD n 0 ∧ l.getD n 0 ≤ hi
    · obtain ⟨b, hb, hiff⟩ := ih (n + 1) (by omega) (fun m hm' => by
        by_cases e : m = n
        · subst e; exact h
        · exact hm m (by omega))
      refine ⟨b, ?_, hiff⟩
      refine ev_succ ?_
      simp only [impl_allIn.l0, impl_in_eq, Option.bind_some]
      refine ev_pos (by omega) (ev_pos (by omega) (ev_pos (by omega) (ev_pos (by rw [rd_nat]; simpa using h) ?_)))
      rw [w64_succ (m := l.length) (by omega) hx]
      exact hb
    · refine ⟨false, ?_, ⟨fun h' => (Bool.false_ne_true h').elim, fun h' => absurd (h' n (by omega)) h⟩⟩
      refine ev_succ ?_
      simp only [impl_allIn.l0, impl_in_eq, Option.bind_some]
      exact ev_pos (by omega) (ev_pos (by omega) (ev_pos (by omega) (ev_neg (by rw [rd_nat]; simpa using h) (Ev.now _))))
theorem impl_all_ev (l : List Int) (lo hi : Int) (hx : l.length ≤ 9223372036854775807) : ∃ b, Ev (fun k => impl_allIn.f k l lo hi) b ∧ (b = true ↔ AllIn l lo hi) := by
  unfold impl_allIn.f
  exact impl_all_loop l lo hi hx l.length 0 (by omega) (fun m h => by omega)

theorem cross_same (k : Nat) : ∀ x0 x1 a b, impl_Crossings.l0 k x0 x1 a b = spec_Crossings.l0 k x0 x1 a b := by
  induction k with
  | zero => intro x0 x1 a b; simp only [impl_Crossings.l0, spec_Crossings.l0]
  | succ k ih => intro x0 x1 a b; simp only [impl_Crossings.l0, spec_Crossings.l0, ih]
theorem cross_ev (l : List Int) (lv : Int) (hx : l.length ≤ 9223372036854775807) : ∀ (d n : Nat) (c : Int), 1 ≤ n → l.length ≤ n + d → ∃ r, Ev (fun k => spec_Crossings.l0 k l lv c (n : Int)) r := by
  intro d
  induction d with
  | zero =>
    intro n c h1 hn
    refine ex_succ ?_
    simp only [spec_Crossings.l0]
    exact ⟨_, ev_neg (by omega) (Ev.now _)⟩
  | succ d ih =>
    intro n c h1 hn
    by_cases hlt : n < l.length
    · have e1 : wrap64 ((n : Int) + 1) = ((n + 1 : Nat) : Int) := w64_succ hlt hx
      have e2 : wrap64 ((n : Int) - 1) = (n : Int) - 1 := w64 (by omega) (by omega)
      by_cases ha : rd l (n : Int) ≥ lv
      · by_cases hb : rd l ((n : Int) - 1) < lv
        · obtain ⟨r, hr⟩ := ih (n + 1) (wrap64 (c + 1)) (by omega) (by omega)
          refine ⟨r, ev_succ ?_⟩
          simp only [spec_Crossings.l0, e1, e2]
          exact ev_pos (by omega) (ev_pos (by omega) (ev_pos ha (ev_pos (by omega) (ev_pos (by omega) (ev_pos hb hr)))))
        · obtain ⟨r, hr⟩ := ih (n + 1) c (by omega) (by omega)
          refine ⟨r, ev_succ ?_⟩
          simp only [spec_Crossings.l0, e1, e2]
          exact ev_pos (by omega) (ev_pos (by omega) (ev_pos ha (ev_pos (by omega) (ev_pos (by omega) (ev_neg hb hr)))))
      · obtain ⟨r, hr⟩ := ih (n + 1) c (by omega) (by omega)
        refine ⟨r, ev_succ ?_⟩
        simp only [spec_Crossings.l0, e1, e2]
        exact ev_pos (by omega) (ev_pos (by omega) (ev_neg ha hr))
    · refine ex_succ ?_
      simp only [spec_Crossings.l0]
      exact ⟨_, ev_neg (by omega) (Ev.now _)⟩
theorem cross_both (l : List Int) (lv : Int) (hx : l.length ≤ 9223372036854775807) : ∃ r, Ev (fun k => spec_Crossings.f k l lv) r ∧ Ev (fun k => impl_Crossings.f k l lv) r := by
  unfold spec_Crossings.f impl_Crossings.f
  have bad : Ev (fun k => spec_Crossings.j0 k l lv true) (0, false) ∧ Ev (fun k => impl_Crossings.j0 k l lv true) (0, false) := by
    constructor
    · refine ev_succ ?_
      simp only [spec_Crossings.j0]
      exact ev_pos (by trivial) (Ev.now _)
    · refine ev_succ ?_
      simp only [impl_Crossings.j0]
      exact ev_pos (by trivial) (Ev.now _)
  by_cases h : (l.length : Int) > 300
  · exact ⟨(0, false), ev_pos h bad.1, ev_pos h bad.2⟩
  · obtain ⟨b, hb, ib⟩ := spec_all_ev l (-1000000) 1000000 hx
    obtain ⟨c, hc, ic⟩ := impl_all_ev l (-1000000) 1000000 hx
    obtain rfl : c = b := bool_eq_of_iff ic ib
    cases c with
    | false => exact ⟨(0, false), ev_neg h (Ev.bind hb bad.1), ev_neg h (Ev.bind hc bad.2)⟩
    | true =>
      obtain ⟨r, hr⟩ := cross_ev l lv hx l.length 1 0 (by omega) (by omega)
      refine ⟨r, ev_neg h (Ev.bind hb ?_), ev_neg h (Ev.bind hc ?_)⟩
      · refine ev_succ ?_
        simp only [spec_Crossings.j0]
        exact ev_neg (by decide) hr
      · refine ev_succ ?_
        simp only [impl_Crossings.j0, cross_same]
        exact ev_neg (by decide) hr
theorem FnExactCrossings : laws_FnExactCrossings.PureR := by
  intro l0 a1 ⟨hm, hwf⟩ hwa
  refine Ev.rounds ?_
  unfold laws_FnExactCrossings.f
  by_cases hb : (l0.length : Int) > 1048576
  · exact ev_pos hb (Ev.now _)
  obtain ⟨r, hs, hi⟩ := cross_both l0 a1 (by omega)
  have ht := toIntS_ev l0 (by omega)
  refine ev_neg hb (Ev.bind ht (Ev.bind hs (Ev.bind ht (Ev.bind hi (ev_pos (by trivial) (ev_succ ?_))))))
  simp only [laws_FnExactCrossings.j0]
  exact ev_neg (by simp) (Ev.bind ht (Ev.bind (eqIntS_ev l0 (by omega)) (ev_pos (by trivial) (Ev.now _))))

end Go.Proofs.Ytceepcjpelcbgaa.Pure
