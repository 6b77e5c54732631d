/- Proved here: the pure statement of the law FnCracks; no condition. -/
import Derived.Test.YtceepcjpelcbgaaPureDefFnCracks
namespace Go.Proofs.Ytceepcjpelcbgaa.Pure
open Go.RowKit Go.Proofs.Ytceepcjpelcbgaa.PFnCracks Go.Proofs.YtceepcjpelcbgaaW.PrintWords Go.Proofs.YtceepcjpelcbgaaW.PrintLast Go.Proofs.YtceepcjpelcbgaaW.PrintMore
set_option linter.unusedVariables false
set_option linter.unusedSimpArgs false

theorem ev_pos {c : Prop} [Decidable c] {α : Type} {A B : Nat → Option α} {r : α} (h : c) (k : Ev A r) : Ev (fun n => if c then A n else B n) r := by
  simpa only [if_pos h] using k
theorem ev_neg {c : Prop} [Decidable c] {α : Type} {A B : Nat → Option α} {r : α} (h : ¬ c) (k : Ev B r) : Ev (fun n => if c then A n else B n) r := by
  simpa only [if_neg h] using k
theorem ev_succ {α : Type} {g : Nat → Option α} {r : α} (h : Ev (fun k => g (k + 1)) r) : Ev g r := Ev.step (fun _ => rfl) h
theorem ex_succ {α : Type} {g : Nat → Option α} (h : ∃ r, Ev (fun k => g (k + 1)) r) : ∃ r, Ev g r := by
  obtain ⟨r, h⟩ := h
  exact ⟨r, ev_succ h⟩
theorem ev_one {α : Type} {g : Nat → Option α} {r q : α} (h : Ev g r) (h' : Ev g q) : r = q := by
  obtain ⟨K, hK⟩ := h
  obtain ⟨L, hL⟩ := h'
  have a := hK (max K L) (Nat.le_max_left _ _)
  have b := hL (max K L) (Nat.le_max_right _ _)
  exact Option.some.inj (a.symm.trans b)
theorem ev_bool {α : Type} {A B : Nat → Option α} {r : α} (b : Bool) (h1 : b = true → Ev A r) (h2 : b = false → Ev B r) : Ev (fun n => if b = true then A n else B n) r := by
  cases b with
  | true => exact ev_pos (by trivial) (h1 rfl)
  | false => exact ev_neg (by decide) (h2 rfl)
theorem bool_eq_of_iff {a b : Bool} {p : Prop} (h : a = true ↔ p) (h' : b = true ↔ p) : a = b := by
  rw [Bool.eq_iff_iff]
  exact h.trans h'.symm
theorem w64 {x : Int} (h0 : -9223372036854775808 ≤ x) (h1 : x ≤ 9223372036854775807) : wrap64 x = x := by
  unfold wrap64
  omega
theorem w64_succ {n m : Nat} (h : n < m) (hm : m ≤ 9223372036854775807) : wrap64 ((n : Int) + 1) = ((n + 1 : Nat) : Int) := by
  unfold wrap64
  omega
theorem rd_nat (l : List Int) (n : Nat) : rd l (n : Int) = l.getD n 0 := by
  unfold rd
  rw [Int.toNat_natCast]
theorem take_set_succ {α : Type} (d : α) {x0 x3 : List α} {n : Nat} (h : n < x0.length) (hl : x3.length = x0.length) (ht : x3.take n = x0.take n) : (x3.set n (x0.getD n d)).take (n + 1) = x0.take (n + 1) := by
  apply List.ext_getElem?
  intro i
  simp only [List.getElem?_take, List.getElem?_set]
  by_cases hi : i < n + 1
  · rw [if_pos hi, if_pos hi]
    by_cases he : n = i
    · subst he
      rw [if_pos rfl, if_pos (by omega), List.getD_eq_getElem?_getD, List.getElem?_eq_getElem h]
      rfl
    · rw [if_neg he]
      have := congrArg (fun l => l[i]?) ht
      simpa only [List.getElem?_take, if_pos (show i < n by omega)] using this
  · rw [if_neg hi, if_neg hi]
theorem u8_bounds {l : List Int} (h : ∀ x ∈ l, 0 ≤ x ∧ x ≤ 255) (n : Nat) : 0 ≤ l.getD n 0 ∧ l.getD n 0 ≤ 255 := by
  rw [List.getD_eq_getElem?_getD]
  cases e : l[n]? with
  | none => simp
  | some x =>
    exact h x (List.mem_of_getElem? e)

theorem impl_in_eq (a b c : Int) : impl_in.f a b c = some (decide (b ≤ a ∧ a ≤ c)) := by
  unfold impl_in.f
  split
  · congr 1
    rw [decide_eq_decide]
    omega
  · congr 1
    symm
    rw [decide_eq_false_iff_not]
    omega

theorem ceil_eq (y : Int) (h0 : 0 ≤ y) (h1 : y ≤ 1000000000000) : impl_ceilOver.f y 1000 = some ((y + 999) / 1000) := by
  unfold impl_ceilOver.f impl_floorOver.f
  rw [w64 (x := -y) (by omega) (by omega), if_neg (by decide), Int.neg_tmod, Int.neg_tdiv, Int.tmod_eq_emod_of_nonneg h0, Int.tdiv_eq_ediv_of_nonneg h0]
  by_cases hm : y % 1000 = 0
  · rw [if_pos (by omega)]
    simp only [Option.bind_some]
    rw [w64 (x := -(y / 1000)) (by omega) (by omega), w64 (by omega) (by omega)]
    congr 1
    omega
  · rw [if_neg (by omega), if_pos (by
      rw [decide_eq_true (show -y < 0 by omega)]
      rfl)]
    simp only [Option.bind_some]
    rw [w64 (x := -(y / 1000)) (by omega) (by omega), w64 (x := -(y / 1000) - 1) (by omega) (by omega), w64 (by omega) (by omega)]
    congr 1
    omega

theorem at_ev {l : List Int} (h : ∀ x ∈ l, 0 ≤ x ∧ x ≤ 255) (hl : l.length ≤ 1048576) (i : Int) (h0 : 0 ≤ i) (h1 : i ≤ 1000000) : ∃ v, laws_at.f l i = some v ∧ 0 ≤ v ∧ v ≤ 255 := by
  unfold laws_at.f
  by_cases hi : i < (l.length : Int)
  · rw [if_pos hi, if_pos h0]
    have := u8_bounds h i.toNat
    refine ⟨_, rfl, ?_⟩
    unfold rd
    rw [w64 (by omega) (by omega)]
    exact this
  · rw [if_neg hi]
    refine ⟨_, rfl, ?_⟩
    rw [w64 (x := i * 7) (by omega) (by omega), w64 (by omega) (by omega), Int.tmod_eq_emod_of_nonneg (by omega)]
    omega

theorem big_ev {l : List Int} (h : l.length ≤ 1048576) : laws_big.f l = some false := by
  unfold laws_big.f
  rw [decide_eq_false (by omega)]
theorem big_big {l : List Int} (h : ¬ l.length ≤ 1048576) : laws_big.f l = some true := by
  unfold laws_big.f
  rw [decide_eq_true (by omega)]

def stp (g x : Int) : Int := x + (x * g + 999) / 1000
def itr (g : Int) : Nat → Int → Int
  | 0, x => x
  | m + 1, x => itr g m (stp g x)
theorem stp_lt {g x : Int} (hg : 1 ≤ g) (hx : 1 ≤ x) : x < stp g x := by
  have : 1 ≤ x * g := by
    have := Int.mul_le_mul hx hg (by omega) (by omega)
    omega
  unfold stp
  omega
theorem mul_small {g x : Int} (hg : 1 ≤ g) (hg' : g ≤ 100) (hx : 1 ≤ x) (hx' : x ≤ 2000) : 1 ≤ x * g ∧ x * g ≤ 200000 := by
  have h1 := Int.mul_le_mul hx hg (by omega) (by omega)
  have h2 := Int.mul_le_mul hx' hg' (by omega) (by omega)
  omega
theorem flights_ev (g lim : Int) (hg : 1 ≤ g) (hg' : g ≤ 100) (hl : lim ≤ 1110) : ∀ (d : Nat) (i x : Int), 0 ≤ i → i + d ≤ 4000 → 1 ≤ x → x ≤ lim → lim - x < d →
    ∃ m : Nat, 1 ≤ m ∧ m ≤ d ∧ Ev (fun k => impl_Flights.l0 k i x lim g) (i + m, true) ∧ (∀ j, j < m → itr g j x ≤ lim ∧ 1 ≤ itr g j x) ∧ lim < itr g m x := by
  intro d
  induction d with
  | zero => intro i x h0 hi hx hxl hd; omega
  | succ d ih =>
    intro i x h0 hi hx hxl hd
    obtain ⟨a1, a2⟩ := mul_small hg hg' hx (by omega)
    have hs := stp_lt hg hx
    have e1 : wrap64 (x * g) = x * g := w64 (by omega) (by omega)
    have e2 : impl_ceilOver.f (x * g) 1000 = some ((x * g + 999) / 1000) := ceil_eq _ (by omega) (by omega)
    have e3 : wrap64 (x + (x * g + 999) / 1000) = stp g x := w64 (by omega) (by omega)
    have e4 : wrap64 (i + 1) = i + 1 := w64 (by omega) (by omega)
    by_cases h : stp g x > lim
    · refine ⟨1, by omega, by omega, ?_, ?_, h⟩
      · refine ev_succ ?_
        simp only [impl_Flights.l0, e1, e2, Option.bind_some, e3, e4]
        exact ev_pos (by omega) (ev_pos h (Ev.now _))
      · intro j hj
        obtain rfl : j = 0 := by omega
        exact ⟨hxl, hx⟩
    · obtain ⟨m, h1, h2, h3, h4, h5⟩ := ih (i + 1) (stp g x) (by omega) (by omega) (by omega) (by omega) (by omega)
      refine ⟨m + 1, by omega, by omega, ?_, ?_, h5⟩
      · refine ev_succ ?_
        simp only [impl_Flights.l0, e1, e2, Option.bind_some, e3, e4]
        refine ev_pos (by omega) (ev_neg h ?_)
        rw [show (i + ((m + 1 : Nat) : Int)) = i + 1 + m by omega]
        exact h3
      · intro j hj
        cases j with
        | zero => exact ⟨hxl, hx⟩
        | succ j => exact h4 j (by omega)
theorem flights_f (now lim g : Int) (h1 : 1 ≤ now) (h2 : now ≤ lim) (h3 : lim ≤ 1110) (hg : 1 ≤ g) (hg' : g ≤ 100) :
    ∃ m : Nat, 1 ≤ m ∧ m ≤ 1200 ∧ Ev (fun k => impl_Flights.f k now lim g) ((m : Int), true) ∧ (∀ j, j < m → itr g j now ≤ lim ∧ 1 ≤ itr g j now) ∧ lim < itr g m now := by
  obtain ⟨m, a, b, c, d, e⟩ := flights_ev g lim hg hg' h3 1200 0 now (by omega) (by omega) h1 h2 (by omega)
  refine ⟨m, a, b, ?_, d, e⟩
  unfold impl_Flights.f impl_crackOk.f
  rw [if_pos (by omega), if_pos h2, if_pos (by omega), impl_in_eq, decide_eq_true ⟨hg, hg'⟩]
  simp only [Option.bind_some]
  refine ev_pos (by trivial) ?_
  simpa using c
theorem loop_ev (l : List Int) (v : Int) (hv : laws_at.f l 3 = some v) (hv0 : 0 ≤ v) (hv1 : v ≤ 255) (now lim g : Int) (h1 : 1 ≤ now) (h2 : now ≤ lim) (h3 : lim ≤ 1110) (hg : 1 ≤ g) (hg' : g ≤ 100) (m : Nat) (hm : 1 ≤ m) (hm' : m ≤ 1200)
    (hF : Ev (fun k => impl_Flights.f k now lim g) ((m : Int), true)) (hlim : lim < itr g m now) :
    ∀ (d n : Nat) (x : Int), n + d = m → itr g d x = itr g m now → (∀ j, j < d → itr g j x ≤ lim ∧ 1 ≤ itr g j x) → Ev (fun k => laws_FnCracks.l0 k l (m : Int) x (n : Int) now lim g) true := by
  intro d
  induction d with
  | zero =>
    intro n x hn hx _
    have hx' : x > lim := by rw [show x = itr g 0 x from rfl, hx]; exact hlim
    have ep : Int.tmod v 5 = v % 5 := Int.tmod_eq_emod_of_nonneg hv0
    have e1 : wrap64 (1 + v % 5) = 1 + v % 5 := w64 (by omega) (by omega)
    have e2 : wrap64 ((m : Int) - 1) = (m : Int) - 1 := w64 (by omega) (by omega)
    have hq : Int.tdiv ((m : Int) - 1) (1 + v % 5) = ((m : Int) - 1) / (1 + v % 5) := Int.tdiv_eq_ediv_of_nonneg (by omega)
    have hq0 : 0 ≤ ((m : Int) - 1) / (1 + v % 5) := Int.ediv_nonneg (by omega) (by omega)
    have hq1 : ((m : Int) - 1) / (1 + v % 5) ≤ (m : Int) - 1 := Int.ediv_le_self _ (by omega)
    have hq2 : ((m : Int) - 1) / (1 + v % 5) * (1 + v % 5) ≤ (m : Int) - 1 := Int.ediv_mul_le _ (by omega)
    have hq3 : ((m : Int) - 1) / (1 + v % 5) = 0 → (m : Int) - 1 < 1 + v % 5 := fun h => by
      have := Int.lt_ediv_add_one_mul_self ((m : Int) - 1) (show 0 < 1 + v % 5 by omega)
      rw [h] at this
      omega
    have e3 : wrap64 (((m : Int) - 1) / (1 + v % 5)) = ((m : Int) - 1) / (1 + v % 5) := w64 (by omega) (by omega)
    have hI : Ev (fun k => impl_Inspect.f k now lim g now (1 + v % 5)) (if ((m : Int) - 1) / (1 + v % 5) = 0 then (0, false) else (((m : Int) - 1) / (1 + v % 5), true)) := by
      unfold impl_Inspect.f impl_crackOk.f
      rw [if_pos (by omega), if_pos h2, if_pos (by omega), impl_in_eq, decide_eq_true ⟨hg, hg'⟩]
      simp only [Option.bind_some]
      refine ev_pos (by trivial) ?_
      rw [impl_in_eq, decide_eq_true ⟨h1, h2⟩]
      simp only [Option.bind_some]
      refine ev_pos (by trivial) ?_
      rw [impl_in_eq, decide_eq_true ⟨by omega, by omega⟩]
      simp only [Option.bind_some]
      refine ev_succ ?_
      simp only [impl_Inspect.j0]
      refine ev_neg (by decide) (Ev.bind hF (ev_pos (by trivial) ?_))
      simp only [e2, hq, e3]
      refine ev_neg (by omega) ?_
      by_cases h : ((m : Int) - 1) / (1 + v % 5) = 0
      · simp only [if_pos h]; exact Ev.now _
      · simp only [if_neg h]; exact Ev.now _
    refine ev_succ ?_
    simp only [laws_FnCracks.l0, hv, Option.bind_some, ep, e1, e2]
    refine ev_neg (by omega) (Ev.bind hI ?_)
    by_cases h : ((m : Int) - 1) / (1 + v % 5) = 0
    · simp only [if_pos h]
      refine ev_neg (by decide) (ev_pos hx' ?_)
      rw [decide_eq_true (hq3 h)]
      exact Ev.now _
    · simp only [if_neg h]
      refine ev_pos (by trivial) (ev_pos hx' (ev_pos (by omega) ?_))
      rw [w64 (by
        have := Int.mul_nonneg hq0 (show 0 ≤ 1 + v % 5 by omega)
        omega) (by omega), decide_eq_true (by omega)]
      exact Ev.now _
  | succ d ih =>
    intro n x hn hx hj
    obtain ⟨a, b⟩ := hj 0 (by omega)
    have a' : x ≤ lim := a
    have b' : 1 ≤ x := b
    obtain ⟨a1, a2⟩ := mul_small hg hg' b' (by omega)
    have e1 : wrap64 (x * g) = x * g := w64 (by omega) (by omega)
    have e2 : wrap64 (x * g + 999) = x * g + 999 := w64 (by omega) (by omega)
    have e3 : Int.tdiv (x * g + 999) 1000 = (x * g + 999) / 1000 := Int.tdiv_eq_ediv_of_nonneg (by omega)
    have e4 : wrap64 ((x * g + 999) / 1000) = (x * g + 999) / 1000 := w64 (by omega) (by omega)
    have e5 : wrap64 (x + (x * g + 999) / 1000) = stp g x := w64 (by omega) (by omega)
    have e6 : wrap64 ((n : Int) + 1) = ((n + 1 : Nat) : Int) := w64_succ (m := m) (by omega) (by omega)
    refine ev_succ ?_
    simp only [laws_FnCracks.l0, e1, e2, e3, e4, e5, e6]
    exact ev_pos (by omega) (ev_neg (by omega) (ih (n + 1) (stp g x) (by omega) hx (fun j h => hj (j + 1) (by omega))))
theorem FnCracks : laws_FnCracks.PureR := by
  intro l0 ⟨hm, hwf⟩
  refine Ev.rounds ?_
  unfold laws_FnCracks.f
  by_cases hb : l0.length ≤ 1048576
  · rw [big_ev hb]
    obtain ⟨v0, q0, a0, b0⟩ := at_ev hwf hb 0 (by omega) (by omega)
    obtain ⟨v1, q1, a1, b1⟩ := at_ev hwf hb 1 (by omega) (by omega)
    obtain ⟨v2, q2, a2, b2⟩ := at_ev hwf hb 2 (by omega) (by omega)
    obtain ⟨v3, q3, a3, b3⟩ := at_ev hwf hb 3 (by omega) (by omega)
    have e0 : wrap64 (1 + Int.tmod v0 90) = 1 + v0 % 90 := by rw [Int.tmod_eq_emod_of_nonneg a0]; exact w64 (by omega) (by omega)
    have e1 : wrap64 (90 + wrap64 (v1 * 4)) = 90 + v1 * 4 := by rw [w64 (x := v1 * 4) (by omega) (by omega)]; exact w64 (by omega) (by omega)
    have e2 : wrap64 (1 + Int.tmod v2 100) = 1 + v2 % 100 := by rw [Int.tmod_eq_emod_of_nonneg a2]; exact w64 (by omega) (by omega)
    simp only [Option.bind_some, q0, q1, q2, e0, e1, e2]
    obtain ⟨m, c1, c2, c3, c4, c5⟩ := flights_f (1 + v0 % 90) (90 + v1 * 4) (1 + v2 % 100) (by omega) (by omega) (by omega) (by omega) (by omega)
    refine ev_neg (by decide) (Ev.bind c3 (ev_pos (by trivial) (ev_succ ?_)))
    simp only [laws_FnCracks.j0]
    refine ev_neg (by simp; omega) ?_
    exact loop_ev l0 v3 q3 a3 b3 _ _ _ (by omega) (by omega) (by omega) (by omega) (by omega) m c1 c2 c3 c5 m 0 _ (by omega) rfl c4
  · rw [big_big hb]
    simp only [Option.bind_some]
    exact ev_pos (by trivial) (Ev.now _)

end Go.Proofs.Ytceepcjpelcbgaa.Pure
