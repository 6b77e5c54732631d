/- Proved here: the program's and the reference's Lasts are the same function of the battery and the draws; no condition. -/
import Derived.Test.YtgbkmbdciknedaaPureDefFnExactLasts
namespace Go.Proofs.Ytgbkmbdciknedaa.Pure
open Go.RowKit Go.Proofs.Ytgbkmbdciknedaa.PFnExactLasts Go.Proofs.YtgbkmbdciknedaaW.PrintWords Go.Proofs.YtgbkmbdciknedaaW.PrintLast Go.Proofs.YtgbkmbdciknedaaW.PrintMore
set_option linter.unusedVariables false
set_option linter.unusedSimpArgs false

theorem ev_pos {c : Prop} [Decidable c] {α : Type} {A B : Nat → Option α} {r : α} (h : c) (k : Ev A r) : Ev (fun n => if c then A n else B n) r := by
  simpa only [if_pos h] using k
theorem ev_neg {c : Prop} [Decidable c] {α : Type} {A B : Nat → Option α} {r : α} (h : ¬ c) (k : Ev B r) : Ev (fun n => if c then A n else B n) r := by
  simpa only [if_neg h] using k
theorem ev_succ {α : Type} {g : Nat → Option α} {r : α} (h : Ev (fun k => g (k + 1)) r) : Ev g r := Ev.step (fun _ => rfl) h
theorem ex_succ {α : Type} {g : Nat → Option α} (h : ∃ r, Ev (fun k => g (k + 1)) r) : ∃ r, Ev g r := by
  obtain ⟨r, h⟩ := h
  exact ⟨r, ev_succ h⟩
theorem ev_one {α : Type} {g : Nat → Option α} {r q : α} (h : Ev g r) (h' : Ev g q) : r = q := by
  obtain ⟨K, hK⟩ := h
  obtain ⟨L, hL⟩ := h'
  have a := hK (max K L) (Nat.le_max_left _ _)
  have b := hL (max K L) (Nat.le_max_right _ _)
  exact Option.some.inj (a.symm.trans b)
theorem ev_bool {α : Type} {A B : Nat → Option α} {r : α} (b : Bool) (h1 : b = true → Ev A r) (h2 : b = false → Ev B r) : Ev (fun n => if b = true then A n else B n) r := by
  cases b with
  | true => exact ev_pos (by trivial) (h1 rfl)
  | false => exact ev_neg (by decide) (h2 rfl)
theorem bool_eq_of_iff {a b : Bool} {p : Prop} (h : a = true ↔ p) (h' : b = true ↔ p) : a = b := by
  rw [Bool.eq_iff_iff]
  exact h.trans h'.symm
theorem w64 {x : Int} (h0 : -9223372036854775808 ≤ x) (h1 : x ≤ 9223372036854775807) : wrap64 x = x := by
  unfold wrap64
  omega
theorem w64_succ {n m : Nat} (h : n < m) (hm : m ≤ 9223372036854775807) : wrap64 ((n : Int) + 1) = ((n + 1 : Nat) : Int) := by
  unfold wrap64
  omega
theorem rd_nat (l : List Int) (n : Nat) : rd l (n : Int) = l.getD n 0 := by
  unfold rd
  rw [Int.toNat_natCast]
theorem take_set_succ {α : Type} (d : α) {x0 x3 : List α} {n : Nat} (h : n < x0.length) (hl : x3.length = x0.length) (ht : x3.take n = x0.take n) : (x3.set n (x0.getD n d)).take (n + 1) = x0.take (n + 1) := by
  apply List.ext_getElem?
  intro i
  simp only [List.getElem?_take, List.getElem?_set]
  by_cases hi : i < n + 1
  · rw [if_pos hi, if_pos hi]
    by_cases he : n = i
    · subst he
      rw [if_pos rfl, if_pos (by omega), List.getD_eq_getElem?_getD, List.getElem?_eq_getElem h]
      rfl
    · rw [if_neg he]
      have := congrArg (fun l => l[i]?) ht
      simpa only [List.getElem?_take, if_pos (show i < n by omega)] using this
  · rw [if_neg hi, if_neg hi]
theorem u8_bounds {l : List Int} (h : ∀ x ∈ l, 0 ≤ x ∧ x ≤ 255) (n : Nat) : 0 ≤ l.getD n 0 ∧ l.getD n 0 ≤ 255 := by
  rw [List.getD_eq_getElem?_getD]
  cases e : l[n]? with
  | none => simp
  | some x =>
    exact h x (List.mem_of_getElem? e)
theorem getD_map {α β : Type} (c : α → β) (l : List α) (n : Nat) (d : α) : (l.map c).getD n (c d) = c (l.getD n d) := by
  simp only [List.getD_eq_getElem?_getD, List.getElem?_map]
  cases l[n]? <;> rfl
/-- It ends, with true just where p holds. -/
def EvB (g : Nat → Option Bool) (p : Prop) : Prop := ∃ b, Ev g b ∧ (b = true ↔ p)
theorem EvB.iff {g : Nat → Option Bool} {p q : Prop} (h : EvB g p) (h' : p ↔ q) : EvB g q := by
  obtain ⟨b, hb, ib⟩ := h
  exact ⟨b, hb, ib.trans h'⟩
theorem EvB.dec {c : Prop} [Decidable c] : EvB (fun _ => some (decide c)) c := ⟨decide c, Ev.now _, decide_eq_true_iff⟩
theorem EvB.ite {c : Prop} [Decidable c] {A : Nat → Option Bool} {p : Prop} (h : EvB A p) : EvB (fun n => if c then A n else some false) (c ∧ p) := by
  obtain ⟨b, hb, ib⟩ := h
  by_cases hc : c
  · exact ⟨b, ev_pos hc hb, ⟨fun h => ⟨hc, ib.1 h⟩, fun h => ib.2 h.2⟩⟩
  · exact ⟨false, ev_neg hc (Ev.now _), ⟨fun h => (Bool.false_ne_true h).elim, fun h => absurd h.1 hc⟩⟩
theorem EvB.ite_not {c : Prop} [Decidable c] {A : Nat → Option Bool} {p : Prop} (h : EvB A p) : EvB (fun n => if c then some false else A n) (¬ c ∧ p) := by
  obtain ⟨b, hb, ib⟩ := h
  by_cases hc : c
  · exact ⟨false, ev_pos hc (Ev.now _), ⟨fun h => (Bool.false_ne_true h).elim, fun h => absurd hc h.1⟩⟩
  · exact ⟨b, ev_neg hc hb, ⟨fun h => ⟨hc, ib.1 h⟩, fun h => ib.2 h.2⟩⟩
theorem EvB.bind {g A : Nat → Option Bool} {p q : Prop} (h : EvB g p) (h' : EvB A q) : EvB (fun n => (g n).bind fun t => if t = true then A n else some false) (p ∧ q) := by
  obtain ⟨b, hb, ib⟩ := h
  obtain ⟨c, hc, ic⟩ := h'
  cases b with
  | true => exact ⟨c, Ev.bind hb (ev_pos rfl hc), ⟨fun h => ⟨ib.1 rfl, ic.1 h⟩, fun h => ic.2 h.2⟩⟩
  | false => exact ⟨false, Ev.bind hb (ev_neg (by decide) (Ev.now _)), ⟨fun h => (Bool.false_ne_true h).elim, fun h => absurd (ib.2 h.1) (by decide)⟩⟩
theorem EvB.last {g : Nat → Option Bool} {p : Prop} (h : EvB g p) : EvB (fun n => (g n).bind fun t => some t) p := by
  obtain ⟨b, hb, ib⟩ := h
  exact ⟨b, Ev.bind hb (Ev.now _), ib⟩
theorem EvB.same {g g' : Nat → Option Bool} {p : Prop} (h : EvB g p) (h' : EvB g' p) : ∃ b, Ev g b ∧ Ev g' b ∧ (b = true ↔ p) := by
  obtain ⟨b, hb, ib⟩ := h
  obtain ⟨c, hc, ic⟩ := h'
  obtain rfl : c = b := bool_eq_of_iff ic ib
  exact ⟨c, hb, hc, ib⟩
theorem EvB.bindE {g A B : Nat → Option Bool} {p q : Prop} (hB : Ev B false) (h : EvB g p) (h' : EvB A q) : EvB (fun n => (g n).bind fun t => if t = true then A n else B n) (p ∧ q) := by
  obtain ⟨b, hb, ib⟩ := h
  obtain ⟨c, hc, ic⟩ := h'
  cases b with
  | true => exact ⟨c, Ev.bind hb (ev_pos rfl hc), ⟨fun h => ⟨ib.1 rfl, ic.1 h⟩, fun h => ic.2 h.2⟩⟩
  | false => exact ⟨false, Ev.bind hb (ev_neg (by decide) hB), ⟨fun h => (Bool.false_ne_true h).elim, fun h => absurd (ib.2 h.1) (by decide)⟩⟩
theorem EvB.iteE {c : Prop} [Decidable c] {A B : Nat → Option Bool} {p : Prop} (hB : Ev B false) (h : EvB A p) : EvB (fun n => if c then A n else B n) (c ∧ p) := by
  obtain ⟨b, hb, ib⟩ := h
  by_cases hc : c
  · exact ⟨b, ev_pos hc hb, ⟨fun h => ⟨hc, ib.1 h⟩, fun h => ib.2 h.2⟩⟩
  · exact ⟨false, ev_neg hc hB, ⟨fun h => (Bool.false_ne_true h).elim, fun h => absurd h.1 hc⟩⟩
theorem EvB.bindN {g : Nat → Option Bool} {J : Nat → Bool → Option Bool} {p q : Prop} (hB : Ev (fun n => J n true) false) (h : EvB g p) (h' : EvB (fun n => J n false) q) : EvB (fun n => (g n).bind fun t => J n (!t)) (p ∧ q) := by
  obtain ⟨b, hb, ib⟩ := h
  obtain ⟨c, hc, ic⟩ := h'
  cases b with
  | true => exact ⟨c, Ev.bind hb hc, ⟨fun h => ⟨ib.1 rfl, ic.1 h⟩, fun h => ic.2 h.2⟩⟩
  | false => exact ⟨false, Ev.bind hb hB, ⟨fun h => (Bool.false_ne_true h).elim, fun h => absurd (ib.2 h.1) (by decide)⟩⟩
theorem EvB.succ {g : Nat → Option Bool} {p : Prop} (h : EvB (fun k => g (k + 1)) p) : EvB g p := by
  obtain ⟨b, hb, ib⟩ := h
  exact ⟨b, ev_succ hb, ib⟩
theorem EvB.true_ {p : Prop} (h : p) : EvB (fun _ => some true) p := ⟨true, Ev.now _, ⟨fun _ => h, fun _ => rfl⟩⟩
theorem EvB.false_ {p : Prop} (h : ¬ p) : EvB (fun _ => some false) p := ⟨false, Ev.now _, ⟨fun e => (Bool.false_ne_true e).elim, fun e => absurd e h⟩⟩
theorem EvB.pos {c : Prop} [Decidable c] {A B : Nat → Option Bool} {p : Prop} (hc : c) (h : EvB A p) : EvB (fun n => if c then A n else B n) p := by
  simpa only [if_pos hc] using h
theorem EvB.neg {c : Prop} [Decidable c] {A B : Nat → Option Bool} {p : Prop} (hc : ¬ c) (h : EvB B p) : EvB (fun n => if c then A n else B n) p := by
  simpa only [if_neg hc] using h

theorem toIntS_loop (x0 : List Int) (hx : x0.length ≤ 9223372036854775807) : ∀ (d n : Nat) (x3 : List Int), n + d = x0.length → x3.length = x0.length → x3.take n = x0.take n → Ev (fun k => laws_toIntS.l0 k x0 x3 (n : Int)) x0 := by
  intro d
  induction d with
  | zero =>
    intro n x3 hn hl ht
    refine ev_succ ?_
    simp only [laws_toIntS.l0]
    refine ev_neg (by omega) ?_
    have e : x3 = x0 := by rw [← List.take_of_length_le (l := x3) (i := n) (by omega), ht, List.take_of_length_le (by omega)]
    rw [e]
    exact Ev.now _
  | succ d ih =>
    intro n x3 hn hl ht
    refine ev_succ ?_
    simp only [laws_toIntS.l0]
    refine ev_pos (by omega) (ev_pos (by omega) (ev_pos (by omega) ?_))
    rw [rd_nat, Int.toNat_natCast, w64_succ (m := x0.length) (by omega) hx]
    exact ih (n + 1) _ (by omega) (by simpa using hl) (take_set_succ 0 (by omega) hl ht)
theorem toIntS_ev (l : List Int) (h : l.length ≤ 35184372088832) : Ev (fun k => laws_toIntS.f k l) l := by
  unfold laws_toIntS.f
  refine ev_pos (by omega) (ev_pos (by omega) ?_)
  exact toIntS_loop l (by omega) l.length 0 _ (by omega) (by simp) (by simp)

theorem eqIntS_loop (x0 : List Int) (hx : x0.length ≤ 9223372036854775807) : ∀ (d n : Nat), n + d = x0.length → Ev (fun k => laws_eqIntS.l0 k x0 x0 (n : Int)) true := by
  intro d
  induction d with
  | zero =>
    intro n hn
    refine ev_succ ?_
    simp only [laws_eqIntS.l0]
    exact ev_neg (by omega) (Ev.now _)
  | succ d ih =>
    intro n hn
    refine ev_succ ?_
    simp only [laws_eqIntS.l0]
    refine ev_pos (by omega) (ev_pos (by omega) (ev_pos (by omega) (ev_pos (by trivial) ?_)))
    rw [w64_succ (m := x0.length) (by omega) hx]
    exact ih (n + 1) (by omega)
theorem eqIntS_ev (l : List Int) (h : l.length ≤ 9223372036854775807) : Ev (fun k => laws_eqIntS.f k l l) true := by
  unfold laws_eqIntS.f
  exact ev_pos (by trivial) (eqIntS_loop l h l.length 0 (by omega))

theorem spec_in_eq (a b c : Int) : spec_l1In.f a b c = some (decide (b ≤ a ∧ a ≤ c)) := by
  unfold spec_l1In.f
  split
  · congr 1
    rw [decide_eq_decide]
    omega
  · congr 1
    symm
    rw [decide_eq_false_iff_not]
    omega
theorem spec_in_evB (a b c : Int) : EvB (fun _ => spec_l1In.f a b c) (b ≤ a ∧ a ≤ c) := by
  rw [spec_in_eq]
  exact EvB.dec

theorem impl_in_eq (a b c : Int) : impl_in.f a b c = some (decide (b ≤ a ∧ a ≤ c)) := by
  unfold impl_in.f
  split
  · congr 1
    rw [decide_eq_decide]
    omega
  · congr 1
    symm
    rw [decide_eq_false_iff_not]
    omega
theorem impl_in_evB (a b c : Int) : EvB (fun _ => impl_in.f a b c) (b ≤ a ∧ a ≤ c) := by
  rw [impl_in_eq]
  exact EvB.dec

def AllIn (l : List Int) (lo hi : Int) : Prop := ∀ n, n < l.length → lo ≤ l.getD n 0 ∧ l.getD n 0 ≤ hi
def Rise (l : List Int) : Prop := ∀ n, n + 1 < l.length → l.getD n 0 < l.getD (n + 1) 0

theorem spec_all_loop (l : List Int) (lo hi : Int) (hx : l.length ≤ 9223372036854775807) : ∀ (d n : Nat), n + d = l.length → (∀ m, m < n → lo ≤ l.getD m 0 ∧ l.getD m 0 ≤ hi) → ∃ b, Ev (fun k => spec_l1All.l0 k l lo hi (n : Int)) b ∧ (b = true ↔ AllIn l lo hi) := by
  intro d
  induction d with
  | zero =>
    intro n hn hm
    refine ⟨true, ?_, ⟨fun _ m h => hm m (by omega), fun _ => rfl⟩⟩
    refine ev_succ ?_
    simp only [spec_l1All.l0]
    exact ev_neg (by omega) (Ev.now _)
  | succ d ih =>
    intro n hn hm
    by_cases h : lo ≤ l.getD n 0 ∧ l.getD n 0 ≤ hi
    · obtain ⟨b, hb, hiff⟩ := ih (n + 1) (by omega) (fun m hm' => by
        by_cases e : m = n
        · subst e; exact h
        · exact hm m (by omega))
      refine ⟨b, ?_, hiff⟩
      refine ev_succ ?_
      simp only [spec_l1All.l0, spec_in_eq, Option.bind_some]
      refine ev_pos (by omega) (ev_pos (by omega) (ev_pos (by rw [rd_nat]; simpa using h) ?_))
      rw [w64_succ (m := l.length) (by omega) hx]
      exact hb
    · refine ⟨false, ?_, ⟨fun h' => (Bool.false_ne_true h').elim, fun h' => absurd (h' n (by omega)) h⟩⟩
      refine ev_succ ?_
      simp only [spec_l1All.l0, spec_in_eq, Option.bind_some]
      exact ev_pos (by omega) (ev_pos (by omega) (ev_neg (by rw [rd_nat]; simpa using h) (Ev.now _)))
theorem spec_all_ev (l : List Int) (lo hi : Int) (hx : l.length ≤ 9223372036854775807) : ∃ b, Ev (fun k => spec_l1All.f k l lo hi) b ∧ (b = true ↔ AllIn l lo hi) := by
  unfold spec_l1All.f
  exact spec_all_loop l lo hi hx l.length 0 (by omega) (fun m h => by omega)

theorem impl_all_loop (l : List Int) (lo hi : Int) (hx : l.length ≤ 9223372036854775807) : ∀ (d n : Nat), n + d = l.length → (∀ m, m < n → lo ≤ l.getD m 0 ∧ l.getD m 0 ≤ hi) → ∃ b, Ev (fun k => impl_allIn.l0 k lo hi l (l.length : Int) (n : Int)) b ∧ (b = true ↔ AllIn l lo hi) := by
  intro d
  induction d with
  | zero =>
    intro n hn hm
    refine ⟨true, ?_, ⟨fun _ m h => hm m (by omega), fun _ => rfl⟩⟩
    refine ev_succ ?_
    simp only [impl_allIn.l0]
    exact ev_neg (by omega) (Ev.now _)
  | succ d ih =>
    intro n hn hm
    by_cases h : lo ≤ l.getD n 0 ∧ l.getD n 0 ≤ hi
    · obtain ⟨b, hb, hiff⟩ := ih (n + 1) (by omega) (fun m hm' => by
        by_cases e : m = n
        · subst e; exact h
        · exact hm m (by omega))
      refine ⟨b, ?_, hiff⟩
      refine ev_succ ?_
      simp only [impl_allIn.l0, impl_in_eq, Option.bind_some]
      refine ev_pos (by omega) (ev_pos (by omega) (ev_pos (by omega) (ev_pos (by rw [rd_nat]; simpa using h) ?_)))
      rw [w64_succ (m := l.length) (by omega) hx]
      exact hb
    · refine ⟨false, ?_, ⟨fun h' => (Bool.false_ne_true h').elim, fun h' => absurd (h' n (by omega)) h⟩⟩
      refine ev_succ ?_
      simp only [impl_allIn.l0, impl_in_eq, Option.bind_some]
      exact ev_pos (by omega) (ev_pos (by omega) (ev_pos (by omega) (ev_neg (by rw [rd_nat]; simpa using h) (Ev.now _))))
theorem impl_all_ev (l : List Int) (lo hi : Int) (hx : l.length ≤ 9223372036854775807) : ∃ b, Ev (fun k => impl_allIn.f k l lo hi) b ∧ (b = true ↔ AllIn l lo hi) := by
  unfold impl_allIn.f
  exact impl_all_loop l lo hi hx l.length 0 (by omega) (fun m h => by omega)

theorem lasts_same {l : List Int} {a most loss : Int} (k : Nat) : ∀ c i, impl_Lasts.l0 k l l (l.length : Int) i c most loss = spec_Lasts.l0 k l c i a most loss := by
  induction k with
  | zero => intro c i; simp only [impl_Lasts.l0, spec_Lasts.l0]
  | succ k ih =>
    intro c i
    have e : ∀ x, spec_l1Min.f most x = some (mn x most) := by
      intro x
      unfold spec_l1Min.f mn
      by_cases h : most < x
      · rw [if_pos h, if_pos h]
      · rw [if_neg h, if_neg h]
    simp only [impl_Lasts.l0, spec_Lasts.l0, e, Option.bind_some, ih]
    by_cases h1 : i < (l.length : Int)
    · by_cases h2 : 0 ≤ i
      · simp only [if_pos h1, if_pos h2]
      · simp only [if_pos h1, if_neg h2]
    · simp only [if_neg h1]
theorem lasts_ends {l : List Int} {a most loss : Int} (hx : l.length ≤ 9223372036854775807) : ∀ (d n : Nat) (c : Int), n + d = l.length → ∃ r, Ev (fun k => spec_Lasts.l0 k l c (n : Int) a most loss) r := by
  have e : ∀ x, spec_l1Min.f most x = some (mn x most) := by
    intro x
    unfold spec_l1Min.f mn
    by_cases h : most < x
    · rw [if_pos h, if_pos h]
    · rw [if_neg h, if_neg h]
  intro d
  induction d with
  | zero =>
    intro n c hn
    refine ex_succ ?_
    simp only [spec_Lasts.l0]
    exact ⟨_, ev_neg (by omega) (Ev.now _)⟩
  | succ d ih =>
    intro n c hn
    have e1 : wrap64 ((n : Int) + 1) = ((n + 1 : Nat) : Int) := w64_succ (m := l.length) (by omega) hx
    by_cases h : mn (wrap64 (wrap64 (c - rd l (n : Int)) - loss)) most < 0
    · refine ex_succ ?_
      simp only [spec_Lasts.l0, e, Option.bind_some]
      exact ⟨_, ev_pos (by omega) (ev_pos (by omega) (ev_pos h (Ev.now _)))⟩
    · obtain ⟨r, hr⟩ := ih (n + 1) (mn (wrap64 (wrap64 (c - rd l (n : Int)) - loss)) most) (by omega)
      refine ⟨r, ev_succ ?_⟩
      simp only [spec_Lasts.l0, e, Option.bind_some, e1]
      exact ev_pos (by omega) (ev_pos (by omega) (ev_neg h hr))
theorem lasts_both (c most loss : Int) (l : List Int) (hx : l.length ≤ 9223372036854775807) : ∃ r, Ev (fun k => spec_Lasts.f k c most loss l) r ∧ Ev (fun k => impl_Lasts.f k c most loss l) r := by
  simp only [spec_Lasts.f, impl_Lasts.f, impl_in_eq, spec_in_eq, Option.bind_some]
  have bad1 : Ev (fun k => spec_Lasts.j0 k l true c most loss) (0, 0, false) := by
    refine ev_succ ?_
    simp only [spec_Lasts.j0]
    exact ev_pos (by trivial) (Ev.now _)
  have bad2 : Ev (fun k => impl_Lasts.j1 k l true c most loss) (0, 0, false) := by
    refine ev_succ ?_
    simp only [impl_Lasts.j1]
    exact ev_pos (by trivial) (Ev.now _)
  have bad3 : Ev (fun k => impl_Lasts.j0 k l false c most loss) (0, 0, false) := by
    refine ev_succ ?_
    simp only [impl_Lasts.j0]
    exact ev_neg (by decide) bad2
  by_cases h1 : 0 ≤ c ∧ c ≤ most
  · simp only [decide_eq_true h1]
    by_cases h2 : most ≤ 1000000
    · by_cases h3 : 0 ≤ loss ∧ loss ≤ 100
      · simp only [decide_eq_true h3]
        by_cases h4 : (l.length : Int) > 300
        · refine ⟨_, ev_pos (by trivial) (ev_neg (by omega) (ev_pos (by trivial) (ev_pos h4 bad1))), ev_pos h1.1 (ev_pos h1.2 (ev_pos h2 (ev_succ ?_)))⟩
          simp only [impl_Lasts.j0]
          exact ev_pos (by trivial) (ev_pos h4 bad2)
        · obtain ⟨b, hb, hc, _⟩ := EvB.same (spec_all_ev l (-100000) 100000 hx) (impl_all_ev l (-100000) 100000 hx)
          cases b with
          | false =>
            refine ⟨_, ev_pos (by trivial) (ev_neg (by omega) (ev_pos (by trivial) (ev_neg h4 (Ev.bind hb bad1)))), ev_pos h1.1 (ev_pos h1.2 (ev_pos h2 (ev_succ ?_)))⟩
            simp only [impl_Lasts.j0]
            exact ev_pos (by trivial) (ev_neg h4 (Ev.bind hc bad2))
          | true =>
            obtain ⟨r, hr⟩ := lasts_ends (l := l) (a := c) (most := most) (loss := loss) hx l.length 0 c (by omega)
            refine ⟨r, ev_pos (by trivial) (ev_neg (by omega) (ev_pos (by trivial) (ev_neg h4 (Ev.bind hb (ev_succ ?_))))), ev_pos h1.1 (ev_pos h1.2 (ev_pos h2 (ev_succ ?_)))⟩
            · simp only [spec_Lasts.j0]
              exact ev_neg (by decide) hr
            · simp only [impl_Lasts.j0]
              refine ev_pos (by trivial) (ev_neg h4 (Ev.bind hc (ev_succ ?_)))
              simp only [impl_Lasts.j1, lasts_same (a := c)]
              exact ev_neg (by decide) hr
      · simp only [decide_eq_false h3]
        exact ⟨_, ev_pos (by trivial) (ev_neg (by omega) (ev_neg (by decide) bad1)), ev_pos h1.1 (ev_pos h1.2 (ev_pos h2 bad3))⟩
    · exact ⟨_, ev_pos (by trivial) (ev_pos (by omega) bad1), ev_pos h1.1 (ev_pos h1.2 (ev_neg h2 bad3))⟩
  · simp only [decide_eq_false h1]
    refine ⟨(0, 0, false), ev_neg (by decide) bad1, ?_⟩
    by_cases g : c ≥ 0
    · exact ev_pos g (ev_neg (by omega) bad3)
    · exact ev_neg g bad3
theorem FnExactLasts : laws_FnExactLasts.PureR := by
  intro c most loss l _ _ _ ⟨hx, _⟩
  refine Ev.rounds ?_
  unfold laws_FnExactLasts.f
  by_cases hb : (l.length : Int) > 1048576
  · exact ev_pos hb (Ev.now _)
  obtain ⟨r, h1, h2⟩ := lasts_both c most loss l hx
  have ht := toIntS_ev l (by omega)
  simp only [laws_toBattery.f, Option.bind_some]
  refine ev_neg hb (Ev.bind ht (Ev.bind h1 (Ev.bind ht (Ev.bind h2 (ev_pos (by trivial) (ev_pos (by trivial) (ev_succ ?_)))))))
  simp only [laws_FnExactLasts.j0]
  exact ev_neg (by simp) (Ev.bind ht (Ev.bind (eqIntS_ev l (by omega)) (ev_pos (by trivial) (Ev.now _))))

end Go.Proofs.Ytgbkmbdciknedaa.Pure
