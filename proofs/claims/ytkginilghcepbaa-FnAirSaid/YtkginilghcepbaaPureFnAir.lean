/- Proved here: of a drawn air it is nowhere colder than at the coldest, and one unit higher it is warmer by a slope; no condition. -/
import Derived.Test.YtkginilghcepbaaPureDefFnAir
namespace Go.Proofs.Ytkginilghcepbaa.Pure
open Go.RowKit Go.Proofs.Ytkginilghcepbaa.QFnAir Go.Proofs.YtkginilghcepbaaW.PrintWords Go.Proofs.YtkginilghcepbaaW.PrintLast Go.Proofs.YtkginilghcepbaaW.PrintMore
set_option linter.unusedVariables false
set_option linter.unusedSimpArgs false

theorem ev_pos {c : Prop} [Decidable c] {α : Type} {A B : Nat → Option α} {r : α} (h : c) (k : Ev A r) : Ev (fun n => if c then A n else B n) r := by
  simpa only [if_pos h] using k
theorem ev_neg {c : Prop} [Decidable c] {α : Type} {A B : Nat → Option α} {r : α} (h : ¬ c) (k : Ev B r) : Ev (fun n => if c then A n else B n) r := by
  simpa only [if_neg h] using k
theorem ev_succ {α : Type} {g : Nat → Option α} {r : α} (h : Ev (fun k => g (k + 1)) r) : Ev g r := Ev.step (fun _ => rfl) h
theorem ex_succ {α : Type} {g : Nat → Option α} (h : ∃ r, Ev (fun k => g (k + 1)) r) : ∃ r, Ev g r := by
  obtain ⟨r, h⟩ := h
  exact ⟨r, ev_succ h⟩
theorem ev_one {α : Type} {g : Nat → Option α} {r q : α} (h : Ev g r) (h' : Ev g q) : r = q := by
  obtain ⟨K, hK⟩ := h
  obtain ⟨L, hL⟩ := h'
  have a := hK (max K L) (Nat.le_max_left _ _)
  have b := hL (max K L) (Nat.le_max_right _ _)
  exact Option.some.inj (a.symm.trans b)
theorem ev_bool {α : Type} {A B : Nat → Option α} {r : α} (b : Bool) (h1 : b = true → Ev A r) (h2 : b = false → Ev B r) : Ev (fun n => if b = true then A n else B n) r := by
  cases b with
  | true => exact ev_pos (by trivial) (h1 rfl)
  | false => exact ev_neg (by decide) (h2 rfl)
theorem bool_eq_of_iff {a b : Bool} {p : Prop} (h : a = true ↔ p) (h' : b = true ↔ p) : a = b := by
  rw [Bool.eq_iff_iff]
  exact h.trans h'.symm
theorem w64 {x : Int} (h0 : -9223372036854775808 ≤ x) (h1 : x ≤ 9223372036854775807) : wrap64 x = x := by
  unfold wrap64
  omega
theorem w64_succ {n m : Nat} (h : n < m) (hm : m ≤ 9223372036854775807) : wrap64 ((n : Int) + 1) = ((n + 1 : Nat) : Int) := by
  unfold wrap64
  omega
theorem rd_nat (l : List Int) (n : Nat) : rd l (n : Int) = l.getD n 0 := by
  unfold rd
  rw [Int.toNat_natCast]
theorem take_set_succ {α : Type} (d : α) {x0 x3 : List α} {n : Nat} (h : n < x0.length) (hl : x3.length = x0.length) (ht : x3.take n = x0.take n) : (x3.set n (x0.getD n d)).take (n + 1) = x0.take (n + 1) := by
  apply List.ext_getElem?
  intro i
  simp only [List.getElem?_take, List.getElem?_set]
  by_cases hi : i < n + 1
  · rw [if_pos hi, if_pos hi]
    by_cases he : n = i
    · subst he
      rw [if_pos rfl, if_pos (by omega), List.getD_eq_getElem?_getD, List.getElem?_eq_getElem h]
      rfl
    · rw [if_neg he]
      have := congrArg (fun l => l[i]?) ht
      simpa only [List.getElem?_take, if_pos (show i < n by omega)] using this
  · rw [if_neg hi, if_neg hi]
theorem u8_bounds {l : List Int} (h : ∀ x ∈ l, 0 ≤ x ∧ x ≤ 255) (n : Nat) : 0 ≤ l.getD n 0 ∧ l.getD n 0 ≤ 255 := by
  rw [List.getD_eq_getElem?_getD]
  cases e : l[n]? with
  | none => simp
  | some x =>
    exact h x (List.mem_of_getElem? e)
theorem getD_map {α β : Type} (c : α → β) (l : List α) (n : Nat) (d : α) : (l.map c).getD n (c d) = c (l.getD n d) := by
  simp only [List.getD_eq_getElem?_getD, List.getElem?_map]
  cases l[n]? <;> rfl
/-- It ends, with true just where p holds. -/
def EvB (g : Nat → Option Bool) (p : Prop) : Prop := ∃ b, Ev g b ∧ (b = true ↔ p)
theorem EvB.iff {g : Nat → Option Bool} {p q : Prop} (h : EvB g p) (h' : p ↔ q) : EvB g q := by
  obtain ⟨b, hb, ib⟩ := h
  exact ⟨b, hb, ib.trans h'⟩
theorem EvB.dec {c : Prop} [Decidable c] : EvB (fun _ => some (decide c)) c := ⟨decide c, Ev.now _, decide_eq_true_iff⟩
theorem EvB.ite {c : Prop} [Decidable c] {A : Nat → Option Bool} {p : Prop} (h : EvB A p) : EvB (fun n => if c then A n else some false) (c ∧ p) := by
  obtain ⟨b, hb, ib⟩ := h
  by_cases hc : c
  · exact ⟨b, ev_pos hc hb, ⟨fun h => ⟨hc, ib.1 h⟩, fun h => ib.2 h.2⟩⟩
  · exact ⟨false, ev_neg hc (Ev.now _), ⟨fun h => (Bool.false_ne_true h).elim, fun h => absurd h.1 hc⟩⟩
theorem EvB.ite_not {c : Prop} [Decidable c] {A : Nat → Option Bool} {p : Prop} (h : EvB A p) : EvB (fun n => if c then some false else A n) (¬ c ∧ p) := by
  obtain ⟨b, hb, ib⟩ := h
  by_cases hc : c
  · exact ⟨false, ev_pos hc (Ev.now _), ⟨fun h => (Bool.false_ne_true h).elim, fun h => absurd hc h.1⟩⟩
  · exact ⟨b, ev_neg hc hb, ⟨fun h => ⟨hc, ib.1 h⟩, fun h => ib.2 h.2⟩⟩
theorem EvB.bind {g A : Nat → Option Bool} {p q : Prop} (h : EvB g p) (h' : EvB A q) : EvB (fun n => (g n).bind fun t => if t = true then A n else some false) (p ∧ q) := by
  obtain ⟨b, hb, ib⟩ := h
  obtain ⟨c, hc, ic⟩ := h'
  cases b with
  | true => exact ⟨c, Ev.bind hb (ev_pos rfl hc), ⟨fun h => ⟨ib.1 rfl, ic.1 h⟩, fun h => ic.2 h.2⟩⟩
  | false => exact ⟨false, Ev.bind hb (ev_neg (by decide) (Ev.now _)), ⟨fun h => (Bool.false_ne_true h).elim, fun h => absurd (ib.2 h.1) (by decide)⟩⟩
theorem EvB.last {g : Nat → Option Bool} {p : Prop} (h : EvB g p) : EvB (fun n => (g n).bind fun t => some t) p := by
  obtain ⟨b, hb, ib⟩ := h
  exact ⟨b, Ev.bind hb (Ev.now _), ib⟩
theorem EvB.same {g g' : Nat → Option Bool} {p : Prop} (h : EvB g p) (h' : EvB g' p) : ∃ b, Ev g b ∧ Ev g' b ∧ (b = true ↔ p) := by
  obtain ⟨b, hb, ib⟩ := h
  obtain ⟨c, hc, ic⟩ := h'
  obtain rfl : c = b := bool_eq_of_iff ic ib
  exact ⟨c, hb, hc, ib⟩
theorem EvB.bindE {g A B : Nat → Option Bool} {p q : Prop} (hB : Ev B false) (h : EvB g p) (h' : EvB A q) : EvB (fun n => (g n).bind fun t => if t = true then A n else B n) (p ∧ q) := by
  obtain ⟨b, hb, ib⟩ := h
  obtain ⟨c, hc, ic⟩ := h'
  cases b with
  | true => exact ⟨c, Ev.bind hb (ev_pos rfl hc), ⟨fun h => ⟨ib.1 rfl, ic.1 h⟩, fun h => ic.2 h.2⟩⟩
  | false => exact ⟨false, Ev.bind hb (ev_neg (by decide) hB), ⟨fun h => (Bool.false_ne_true h).elim, fun h => absurd (ib.2 h.1) (by decide)⟩⟩
theorem EvB.iteE {c : Prop} [Decidable c] {A B : Nat → Option Bool} {p : Prop} (hB : Ev B false) (h : EvB A p) : EvB (fun n => if c then A n else B n) (c ∧ p) := by
  obtain ⟨b, hb, ib⟩ := h
  by_cases hc : c
  · exact ⟨b, ev_pos hc hb, ⟨fun h => ⟨hc, ib.1 h⟩, fun h => ib.2 h.2⟩⟩
  · exact ⟨false, ev_neg hc hB, ⟨fun h => (Bool.false_ne_true h).elim, fun h => absurd h.1 hc⟩⟩
theorem EvB.bindN {g : Nat → Option Bool} {J : Nat → Bool → Option Bool} {p q : Prop} (hB : Ev (fun n => J n true) false) (h : EvB g p) (h' : EvB (fun n => J n false) q) : EvB (fun n => (g n).bind fun t => J n (!t)) (p ∧ q) := by
  obtain ⟨b, hb, ib⟩ := h
  obtain ⟨c, hc, ic⟩ := h'
  cases b with
  | true => exact ⟨c, Ev.bind hb hc, ⟨fun h => ⟨ib.1 rfl, ic.1 h⟩, fun h => ic.2 h.2⟩⟩
  | false => exact ⟨false, Ev.bind hb hB, ⟨fun h => (Bool.false_ne_true h).elim, fun h => absurd (ib.2 h.1) (by decide)⟩⟩
theorem EvB.succ {g : Nat → Option Bool} {p : Prop} (h : EvB (fun k => g (k + 1)) p) : EvB g p := by
  obtain ⟨b, hb, ib⟩ := h
  exact ⟨b, ev_succ hb, ib⟩
theorem EvB.true_ {p : Prop} (h : p) : EvB (fun _ => some true) p := ⟨true, Ev.now _, ⟨fun _ => h, fun _ => rfl⟩⟩
theorem EvB.false_ {p : Prop} (h : ¬ p) : EvB (fun _ => some false) p := ⟨false, Ev.now _, ⟨fun e => (Bool.false_ne_true e).elim, fun e => absurd e h⟩⟩
theorem EvB.pos {c : Prop} [Decidable c] {A B : Nat → Option Bool} {p : Prop} (hc : c) (h : EvB A p) : EvB (fun n => if c then A n else B n) p := by
  simpa only [if_pos hc] using h
theorem EvB.neg {c : Prop} [Decidable c] {A B : Nat → Option Bool} {p : Prop} (hc : ¬ c) (h : EvB B p) : EvB (fun n => if c then A n else B n) p := by
  simpa only [if_neg hc] using h

def AllIn (l : List Int) (lo hi : Int) : Prop := ∀ n, n < l.length → lo ≤ l.getD n 0 ∧ l.getD n 0 ≤ hi
def Rise (l : List Int) : Prop := ∀ n, n + 1 < l.length → l.getD n 0 < l.getD (n + 1) 0

theorem spec_in_eq (a b c : Int) : spec_l1In.f a b c = some (decide (b ≤ a ∧ a ≤ c)) := by
  unfold spec_l1In.f
  split
  · congr 1
    rw [decide_eq_decide]
    omega
  · congr 1
    symm
    rw [decide_eq_false_iff_not]
    omega
theorem spec_in_evB (a b c : Int) : EvB (fun _ => spec_l1In.f a b c) (b ≤ a ∧ a ≤ c) := by
  rw [spec_in_eq]
  exact EvB.dec

theorem impl_in_eq (a b c : Int) : impl_in.f a b c = some (decide (b ≤ a ∧ a ≤ c)) := by
  unfold impl_in.f
  split
  · congr 1
    rw [decide_eq_decide]
    omega
  · congr 1
    symm
    rw [decide_eq_false_iff_not]
    omega
theorem impl_in_evB (a b c : Int) : EvB (fun _ => impl_in.f a b c) (b ≤ a ∧ a ≤ c) := by
  rw [impl_in_eq]
  exact EvB.dec

theorem spec_all_loop (l : List Int) (lo hi : Int) (hx : l.length ≤ 9223372036854775807) : ∀ (d n : Nat), n + d = l.length → (∀ m, m < n → lo ≤ l.getD m 0 ∧ l.getD m 0 ≤ hi) → ∃ b, Ev (fun k => spec_l1All.l0 k l lo hi (n : Int)) b ∧ (b = true ↔ AllIn l lo hi) := by
  intro d
  induction d with
  | zero =>
    intro n hn hm
    refine ⟨true, ?_, ⟨fun _ m h => hm m (by omega), fun _ => rfl⟩⟩
    refine ev_succ ?_
    simp only [spec_l1All.l0]
    exact ev_neg (by omega) (Ev.now _)
  | succ d ih =>
    intro n hn hm
    by_cases h : lo ≤ l.getD n 0 ∧ l.getD n 0 ≤ hi
    · obtain ⟨b, hb, hiff⟩ := ih (n + 1) (by omega) (fun m hm' => by
        by_cases e : m = n
        · subst e; exact h
        · exact hm m (by omega))
      refine ⟨b, ?_, hiff⟩
      refine ev_succ ?_
      simp only [spec_l1All.l0, spec_in_eq, Option.bind_some]
      refine ev_pos (by omega) (ev_pos (by omega) (ev_pos (by rw [rd_nat]; simpa using h) ?_))
      rw [w64_succ (m := l.length) (by omega) hx]
      exact hb
    · refine ⟨false, ?_, ⟨fun h' => (Bool.false_ne_true h').elim, fun h' => absurd (h' n (by omega)) h⟩⟩
      refine ev_succ ?_
      simp only [spec_l1All.l0, spec_in_eq, Option.bind_some]
      exact ev_pos (by omega) (ev_pos (by omega) (ev_neg (by rw [rd_nat]; simpa using h) (Ev.now _)))
theorem spec_all_ev (l : List Int) (lo hi : Int) (hx : l.length ≤ 9223372036854775807) : ∃ b, Ev (fun k => spec_l1All.f k l lo hi) b ∧ (b = true ↔ AllIn l lo hi) := by
  unfold spec_l1All.f
  exact spec_all_loop l lo hi hx l.length 0 (by omega) (fun m h => by omega)

theorem impl_all_loop (l : List Int) (lo hi : Int) (hx : l.length ≤ 9223372036854775807) : ∀ (d n : Nat), n + d = l.length → (∀ m, m < n → lo ≤ l.getD m 0 ∧ l.getD m 0 ≤ hi) → ∃ b, Ev (fun k => impl_allIn.l0 k lo hi l (l.length : Int) (n : Int)) b ∧ (b = true ↔ AllIn l lo hi) := by
  intro d
  induction d with
  | zero =>
    intro n hn hm
    refine ⟨true, ?_, ⟨fun _ m h => hm m (by omega), fun _ => rfl⟩⟩
    refine ev_succ ?_
    simp only [impl_allIn.l0]
    exact ev_neg (by omega) (Ev.now _)
  | succ d ih =>
    intro n hn hm
    by_cases h : lo ≤ l.getD n 0 ∧ l.getD n 0 ≤ hi
    · obtain ⟨b, hb, hiff⟩ := ih (n + 1) (by omega) (fun m hm' => by
        by_cases e : m = n
        · subst e; exact h
        · exact hm m (by omega))
      refine ⟨b, ?_, hiff⟩
      refine ev_succ ?_
      simp only [impl_allIn.l0, impl_in_eq, Option.bind_some]
      refine ev_pos (by omega) (ev_pos (by omega) (ev_pos (by omega) (ev_pos (by rw [rd_nat]; simpa using h) ?_)))
      rw [w64_succ (m := l.length) (by omega) hx]
      exact hb
    · refine ⟨false, ?_, ⟨fun h' => (Bool.false_ne_true h').elim, fun h' => absurd (h' n (by omega)) h⟩⟩
      refine ev_succ ?_
      simp only [impl_allIn.l0, impl_in_eq, Option.bind_some]
      exact ev_pos (by omega) (ev_pos (by omega) (ev_pos (by omega) (ev_neg (by rw [rd_nat]; simpa using h) (Ev.now _))))
theorem impl_all_ev (l : List Int) (lo hi : Int) (hx : l.length ≤ 9223372036854775807) : ∃ b, Ev (fun k => impl_allIn.f k l lo hi) b ∧ (b = true ↔ AllIn l lo hi) := by
  unfold impl_allIn.f
  exact impl_all_loop l lo hi hx l.length 0 (by omega) (fun m h => by omega)

theorem spec_rise_loop (l : List Int) (hx : l.length ≤ 9223372036854775807) : ∀ (d n : Nat), 1 ≤ n → l.length ≤ n + d → (∀ m, m + 1 < n → l.getD m 0 < l.getD (m + 1) 0) → ∃ b, Ev (fun k => spec_l1Rise.l0 k l (n : Int)) b ∧ (b = true ↔ Rise l) := by
  intro d
  induction d with
  | zero =>
    intro n h1 hn hm
    refine ⟨true, ?_, ⟨fun _ m h => hm m (by omega), fun _ => rfl⟩⟩
    refine ev_succ ?_
    simp only [spec_l1Rise.l0]
    exact ev_neg (by omega) (Ev.now _)
  | succ d ih =>
    intro n h1 hn hm
    by_cases hlt : n < l.length
    · have e1 : wrap64 ((n : Int) - 1) = ((n - 1 : Nat) : Int) := by rw [w64 (by omega) (by omega)]; omega
      by_cases h : l.getD (n - 1) 0 < l.getD n 0
      · obtain ⟨b, hb, hiff⟩ := ih (n + 1) (by omega) (by omega) (fun m hm' => by
          by_cases e : m + 1 = n
          · have : m = n - 1 := by omega
            subst this
            rw [e]; exact h
          · exact hm m (by omega))
        refine ⟨b, ?_, hiff⟩
        refine ev_succ ?_
        simp only [spec_l1Rise.l0, e1, rd_nat]
        refine ev_pos (by omega) (ev_pos (by omega) (ev_pos (by omega) (ev_pos (by omega) (ev_neg (by omega) ?_))))
        rw [w64_succ (m := l.length) (by omega) hx]
        exact hb
      · refine ⟨false, ?_, ⟨fun h' => (Bool.false_ne_true h').elim, fun h' => absurd (by have := h' (n - 1) (by omega); rwa [show n - 1 + 1 = n by omega] at this) h⟩⟩
        refine ev_succ ?_
        simp only [spec_l1Rise.l0, e1, rd_nat]
        exact ev_pos (by omega) (ev_pos (by omega) (ev_pos (by omega) (ev_pos (by omega) (ev_pos (by omega) (Ev.now _)))))
    · refine ⟨true, ?_, ⟨fun _ m h => hm m (by omega), fun _ => rfl⟩⟩
      refine ev_succ ?_
      simp only [spec_l1Rise.l0]
      exact ev_neg (by omega) (Ev.now _)
theorem spec_rise_ev (l : List Int) (hx : l.length ≤ 9223372036854775807) : ∃ b, Ev (fun k => spec_l1Rise.f k l) b ∧ (b = true ↔ Rise l) := by
  unfold spec_l1Rise.f
  exact spec_rise_loop l hx l.length 1 (by omega) (by omega) (fun m h => by omega)

theorem impl_asc_loop (l : List Int) (lo hi : Int) (hx : l.length ≤ 9223372036854775807) : ∀ (d n : Nat), n + d = l.length → (∀ m, m < n → lo ≤ l.getD m 0 ∧ l.getD m 0 ≤ hi) → (∀ m, m + 1 < n → l.getD m 0 < l.getD (m + 1) 0) → ∃ b, Ev (fun k => impl_ascends.l0 k l lo hi l (l.length : Int) (n : Int)) b ∧ (b = true ↔ AllIn l lo hi ∧ Rise l) := by
  intro d
  induction d with
  | zero =>
    intro n hn hm hr
    refine ⟨true, ?_, ⟨fun _ => ⟨fun m h => hm m (by omega), fun m h => hr m (by omega)⟩, fun _ => rfl⟩⟩
    refine ev_succ ?_
    simp only [impl_ascends.l0]
    exact ev_neg (by omega) (Ev.now _)
  | succ d ih =>
    intro n hn hm hr
    by_cases h : lo ≤ l.getD n 0 ∧ l.getD n 0 ≤ hi
    · have hm1 : ∀ m, m < n + 1 → lo ≤ l.getD m 0 ∧ l.getD m 0 ≤ hi := fun m hm' => by
        by_cases e : m = n
        · subst e; exact h
        · exact hm m (by omega)
      by_cases h0 : n = 0
      · obtain ⟨b, hb, hiff⟩ := ih (n + 1) (by omega) hm1 (fun m hm' => by omega)
        refine ⟨b, ?_, hiff⟩
        refine ev_succ ?_
        simp only [impl_ascends.l0, impl_in_eq, Option.bind_some]
        refine ev_pos (by omega) (ev_pos (by omega) (ev_pos (by omega) (ev_pos (by rw [rd_nat]; simpa using h) (ev_neg (by omega) ?_))))
        rw [w64_succ (m := l.length) (by omega) hx]
        exact hb
      · have e1 : wrap64 ((n : Int) - 1) = ((n - 1 : Nat) : Int) := by rw [w64 (by omega) (by omega)]; omega
        by_cases h2 : l.getD (n - 1) 0 < l.getD n 0
        · obtain ⟨b, hb, hiff⟩ := ih (n + 1) (by omega) hm1 (fun m hm' => by
            by_cases e : m + 1 = n
            · have : m = n - 1 := by omega
              subst this
              rw [e]; exact h2
            · exact hr m (by omega))
          refine ⟨b, ?_, hiff⟩
          refine ev_succ ?_
          simp only [impl_ascends.l0, impl_in_eq, Option.bind_some, e1, rd_nat]
          refine ev_pos (by omega) (ev_pos (by omega) (ev_pos (by omega) (ev_pos (by simpa using h) (ev_pos (by omega) (ev_pos (by omega) (ev_pos (by omega) (ev_neg (by omega) ?_)))))))
          rw [w64_succ (m := l.length) (by omega) hx]
          exact hb
        · refine ⟨false, ?_, ⟨fun h' => (Bool.false_ne_true h').elim, fun h' => absurd (by have := h'.2 (n - 1) (by omega); rwa [show n - 1 + 1 = n by omega] at this) h2⟩⟩
          refine ev_succ ?_
          simp only [impl_ascends.l0, impl_in_eq, Option.bind_some, e1, rd_nat]
          exact ev_pos (by omega) (ev_pos (by omega) (ev_pos (by omega) (ev_pos (by simpa using h) (ev_pos (by omega) (ev_pos (by omega) (ev_pos (by omega) (ev_pos (by omega) (Ev.now _))))))))
    · refine ⟨false, ?_, ⟨fun h' => (Bool.false_ne_true h').elim, fun h' => absurd (h'.1 n (by omega)) h⟩⟩
      refine ev_succ ?_
      simp only [impl_ascends.l0, impl_in_eq, Option.bind_some]
      exact ev_pos (by omega) (ev_pos (by omega) (ev_pos (by omega) (ev_neg (by rw [rd_nat]; simpa using h) (Ev.now _))))
theorem impl_asc_ev (l : List Int) (lo hi : Int) (hx : l.length ≤ 9223372036854775807) : ∃ b, Ev (fun k => impl_ascends.f k l lo hi) b ∧ (b = true ↔ AllIn l lo hi ∧ Rise l) := by
  unfold impl_ascends.f
  exact impl_asc_loop l lo hi hx l.length 0 (by omega) (fun m h => by omega) (fun m h => by omega)

def AirP (B : Int) (S T : List Int) : Prop := (-100 ≤ B ∧ B ≤ 100) ∧ (1 ≤ S.length ∧ S.length ≤ 6) ∧ S.length = T.length ∧ Rise T ∧ AllIn T 1 1000 ∧ AllIn S (-20) 20
theorem spec_air_ev (B : Int) (X Y : List Int) (h : X.length + Y.length ≤ 1048576) : EvB (fun k => spec_AirOk.f k B X Y) (AirP B X Y) := by
  unfold spec_AirOk.f
  exact (EvB.bind (spec_in_evB _ _ _) (EvB.bind (spec_in_evB _ _ _) (EvB.ite (EvB.bind (spec_rise_ev Y (by omega)) (EvB.bind (spec_all_ev Y _ _ (by omega)) (EvB.last (spec_all_ev X _ _ (by omega)))))))).iff (by
    unfold AirP
    constructor
    · rintro ⟨h1, h2, h3, h4, h5, h6⟩; exact ⟨h1, by omega, by omega, h4, h5, h6⟩
    · rintro ⟨h1, h2, h3, h4, h5, h6⟩; exact ⟨h1, by omega, by omega, h4, h5, h6⟩)
theorem impl_air_ev (B : Int) (X Y : List Int) (h : X.length + Y.length ≤ 1048576) : EvB (fun k => impl_AirOk.f k B X Y) (AirP B X Y) := by
  unfold impl_AirOk.f
  exact (EvB.bind (impl_in_evB _ _ _) (EvB.bind (impl_in_evB _ _ _) (EvB.ite (EvB.bind (impl_all_ev X _ _ (by omega)) (EvB.last (impl_asc_ev Y _ _ (by omega))))))).iff (by
    unfold AirP
    constructor
    · rintro ⟨h1, h2, h3, h4, h5, h6⟩; exact ⟨h1, by omega, by omega, h6, h5, h4⟩
    · rintro ⟨h1, h2, h3, h4, h5, h6⟩; exact ⟨h1, by omega, by omega, h6, h5, h4⟩)
theorem warm_mul {s x : Int} (h0 : -20 ≤ s) (h1 : s ≤ 20) (h2 : 0 ≤ x) (h3 : x ≤ 1000) : -20000 ≤ s * x ∧ s * x ≤ 20000 := by
  have a : s * x ≤ 20 * x := Int.mul_le_mul_of_nonneg_right h1 h2
  have b : -20 * x ≤ s * x := Int.mul_le_mul_of_nonneg_right h0 h2
  omega
theorem warm_bd {h t f : Int} (h0 : 0 ≤ h) (h1 : h ≤ 1000) (t1 : 0 ≤ t) (t2 : t ≤ 1000) (f0 : 0 ≤ f) (f1 : f ≤ 1000) : 0 ≤ mx (mn h t - f) 0 ∧ mx (mn h t - f) 0 ≤ 1000 := by
  unfold mx mn
  split <;> split <;> omega
theorem warm_step {h t f : Int} (hf : f < h) (ht : f < t) : mx (mn h t - f) 0 = mn t h - f := by
  unfold mx mn
  split <;> split <;> split <;> omega
theorem warm_none {h t f : Int} (hf : h ≤ f) (ht : f < t) : mx (mn h t - f) 0 = 0 := by
  unfold mx mn
  split <;> split <;> omega
theorem mn_bd {h t : Int} (h0 : 0 ≤ h) (h1 : h ≤ 1000) (t1 : 0 ≤ t) (t2 : t ≤ 1000) : 0 ≤ mn h t ∧ mn h t ≤ 1000 := by
  unfold mn
  split <;> omega
theorem warm_room {o p : Int} {n : Nat} (h3 : -(100 + 20000 * (n : Int)) ≤ o) (h4 : o ≤ 100 + 20000 * (n : Int)) (m1 : -20000 ≤ p) (m2 : p ≤ 20000) : -(100 + 20000 * ((n + 1 : Nat) : Int)) ≤ o + p ∧ o + p ≤ 100 + 20000 * ((n + 1 : Nat) : Int) := by
  rw [Int.natCast_add]
  constructor <;> omega
theorem last_eq {T : List Int} (h : 1 ≤ T.length) (h' : T.length ≤ 1048576) : wrap64 ((T.length : Int) - 1) = ((T.length - 1 : Nat) : Int) := by
  rw [w64 (by omega) (by omega)]
  omega
def prev (T : List Int) (n : Nat) : Int := if n = 0 then 0 else T.getD (n - 1) 0
theorem prev_zero (T : List Int) : prev T 0 = 0 := rfl
theorem prev_succ (T : List Int) (n : Nat) : prev T (n + 1) = T.getD n 0 := rfl
def wsum (S T : List Int) (h : Int) : Nat → Int
  | 0 => 0
  | n + 1 => wsum S T h n + S.getD n 0 * mx (mn h (T.getD n 0) - prev T n) 0
def full (S T : List Int) : Nat → Int
  | 0 => 0
  | n + 1 => full S T n + S.getD n 0 * (T.getD n 0 - prev T n)
theorem rise_le {T : List Int} (h : Rise T) : ∀ (d i : Nat), i + d < T.length → T.getD i 0 ≤ T.getD (i + d) 0 := by
  intro d
  induction d with
  | zero => intro i _; exact Int.le_refl _
  | succ d ih =>
    intro i hi
    have a := ih i (by omega)
    have b := h (i + d) (by omega)
    have e : i + (d + 1) = i + d + 1 := by omega
    rw [e]
    omega
theorem prev_bd {B : Int} {S T : List Int} (hP : AirP B S T) {n : Nat} (hn : n ≤ T.length) : 0 ≤ prev T n ∧ prev T n ≤ 1000 := by
  unfold prev
  by_cases h : n = 0
  · simp [h]
  · simp only [if_neg h]
    have := hP.2.2.2.2.1 (n - 1) (by omega)
    omega
theorem prev_lt {B : Int} {S T : List Int} (hP : AirP B S T) {n : Nat} (hn : n < T.length) : prev T n < T.getD n 0 := by
  unfold prev
  by_cases h : n = 0
  · subst h
    have := hP.2.2.2.2.1 0 hn
    simp only [if_pos]
    omega
  · simp only [if_neg h]
    have := hP.2.2.2.1 (n - 1) (by omega)
    rwa [show n - 1 + 1 = n by omega] at this
theorem wsum_bd {B : Int} {S T : List Int} (hP : AirP B S T) {h : Int} (h0 : 0 ≤ h) (h1 : h ≤ 1000) : ∀ n : Nat, n ≤ T.length → -(100 + 20000 * (n : Int)) ≤ B + wsum S T h n ∧ B + wsum S T h n ≤ 100 + 20000 * (n : Int) := by
  intro n
  induction n with
  | zero =>
    intro _
    have := hP.1
    simp only [wsum]
    constructor <;> omega
  | succ n ih =>
    intro hn
    obtain ⟨a, b⟩ := ih (by omega)
    obtain ⟨t1, t2⟩ := hP.2.2.2.2.1 n (by omega)
    obtain ⟨s1, s2⟩ := hP.2.2.2.2.2 n (by have := hP.2.2.1; omega)
    obtain ⟨p1, p2⟩ := prev_bd hP (n := n) (by omega)
    have hm := warm_bd h0 h1 (by omega : 0 ≤ T.getD n 0) t2 p1 p2
    obtain ⟨m1, m2⟩ := warm_mul s1 s2 hm.1 hm.2
    have := warm_room a b m1 m2
    simp only [wsum]
    rw [← Int.add_assoc]
    exact this
theorem impl_warm_val {B : Int} {S T : List Int} (hP : AirP B S T) {h : Int} (h0 : 0 ≤ h) (h1 : h ≤ 1000) : ∀ (d n : Nat), n + d = T.length → Ev (fun k => impl_warm.l0 k h (B + wsum S T h n) (prev T n) T (T.length : Int) (n : Int) B S T) (B + wsum S T h T.length) := by
  intro d
  induction d with
  | zero =>
    intro n hn
    refine ev_succ ?_
    simp only [impl_warm.l0]
    rw [show n = T.length by omega]
    exact ev_neg (by omega) (Ev.now _)
  | succ d ih =>
    intro n hn
    have hlt : n < T.length := by omega
    obtain ⟨t1, t2⟩ := hP.2.2.2.2.1 n hlt
    obtain ⟨s1, s2⟩ := hP.2.2.2.2.2 n (by have := hP.2.2.1; omega)
    obtain ⟨p1, p2⟩ := prev_bd hP (n := n) (by omega)
    have t0 : 0 ≤ T.getD n 0 := by omega
    have hm := warm_bd h0 h1 t0 t2 p1 p2
    obtain ⟨b1, b2⟩ := mn_bd h0 h1 t0 t2
    obtain ⟨m1, m2⟩ := warm_mul s1 s2 hm.1 hm.2
    obtain ⟨a, b⟩ := wsum_bd hP h0 h1 (n + 1) (by omega)
    have hl6 := hP.2.1
    have hle := hP.2.2.1
    simp only [wsum] at a b
    rw [← Int.add_assoc] at a b
    have e1 : wrap64 (mn h (T.getD n 0) - prev T n) = mn h (T.getD n 0) - prev T n := w64 (by omega) (by omega)
    have e2 : wrap64 (S.getD n 0 * mx (mn h (T.getD n 0) - prev T n) 0) = S.getD n 0 * mx (mn h (T.getD n 0) - prev T n) 0 := w64 (by omega) (by omega)
    have e3 : wrap64 (B + wsum S T h n + S.getD n 0 * mx (mn h (T.getD n 0) - prev T n) 0) = B + wsum S T h n + S.getD n 0 * mx (mn h (T.getD n 0) - prev T n) 0 := w64 (by omega) (by omega)
    have e4 := w64_succ (m := T.length) (n := n) hlt (by omega)
    have k1 : (n : Int) < (T.length : Int) := Int.ofNat_lt.mpr hlt
    have k2 : (n : Int) < (S.length : Int) := by rw [hle]; exact k1
    have := ih (n + 1) (by omega)
    simp only [wsum, prev_succ] at this
    refine ev_succ ?_
    simp only [impl_warm.l0, rd_nat, e1, e2, e3, e4]
    rw [← Int.add_assoc] at this
    exact ev_pos k1 (ev_pos (Int.natCast_nonneg n) (ev_pos k1 (ev_pos k2 this)))
theorem impl_warm_ev {B : Int} {S T : List Int} (hP : AirP B S T) {h : Int} (h0 : 0 ≤ h) (h1 : h ≤ 1000) : Ev (fun k => impl_warm.f k B S T h) (B + wsum S T h T.length) := by
  have := impl_warm_val hP h0 h1 T.length 0 (by omega)
  simp only [wsum, prev_zero, Int.add_zero] at this
  unfold impl_warm.f
  exact this
theorem wsum_low {B : Int} {S T : List Int} (hP : AirP B S T) {h : Int} {n : Nat} (hn : n ≤ T.length) (hh : prev T n ≤ h) : ∀ m : Nat, m ≤ n → wsum S T h m = full S T m := by
  intro m
  induction m with
  | zero => intro _; rfl
  | succ m ih =>
    intro hm
    have a : T.getD m 0 ≤ prev T n := by
      unfold prev
      rw [if_neg (by omega)]
      have := rise_le hP.2.2.2.1 (n - 1 - m) m (by omega)
      rwa [show m + (n - 1 - m) = n - 1 by omega] at this
    have b := prev_lt hP (n := m) (by omega)
    simp only [wsum, full, ih (by omega)]
    have c : mx (mn h (T.getD m 0) - prev T m) 0 = T.getD m 0 - prev T m := by
      unfold mx mn
      split <;> split <;> omega
    rw [c]
theorem wsum_high {B : Int} {S T : List Int} (hP : AirP B S T) {h : Int} {n : Nat} (hh : h ≤ T.getD n 0) : ∀ d : Nat, n + 1 + d ≤ T.length → wsum S T h (n + 1 + d) = wsum S T h (n + 1) := by
  intro d
  induction d with
  | zero => intro _; rfl
  | succ d ih =>
    intro hd
    have a : T.getD n 0 ≤ prev T (n + 1 + d) := by
      unfold prev
      rw [if_neg (by omega)]
      have := rise_le hP.2.2.2.1 d n (by omega)
      rwa [show n + d = n + 1 + d - 1 by omega] at this
    rw [show n + 1 + (d + 1) = n + 1 + d + 1 by omega]
    simp only [wsum]
    rw [show n + 1 + d = n + (1 + d) by omega] at *
    have ih := ih (by omega)
    simp only [wsum] at ih
    rw [ih]
    have c : mx (mn h (T.getD (n + (1 + d)) 0) - prev T (n + (1 + d))) 0 = 0 := by
      unfold mx mn
      split <;> split <;> omega
    rw [c, Int.mul_zero, Int.add_zero]
def seg (B : Int) (S T : List Int) (n : Nat) (h : Int) : Int := B + full S T n + S.getD n 0 * (h - prev T n)
theorem seg_ev {B : Int} {S T : List Int} (hP : AirP B S T) {h : Int} {n : Nat} (hn : n < T.length) (h0 : prev T n ≤ h) (h1 : h ≤ T.getD n 0) : B + wsum S T h T.length = seg B S T n h := by
  have a := wsum_high hP h1 (T.length - (n + 1)) (by omega)
  rw [show n + 1 + (T.length - (n + 1)) = T.length by omega] at a
  rw [a]
  simp only [wsum]
  rw [wsum_low hP (by omega) h0 n (by omega)]
  have c : mx (mn h (T.getD n 0) - prev T n) 0 = h - prev T n := by
    unfold mx mn
    split <;> split <;> omega
  rw [c]
  unfold seg
  omega
theorem seg_top {B : Int} {S T : List Int} (n : Nat) : seg B S T n (T.getD n 0) = B + full S T (n + 1) := by
  unfold seg
  simp only [full]
  omega
theorem seg_prev {B : Int} {S T : List Int} (n : Nat) : seg B S T n (prev T n) = B + full S T n := by
  unfold seg
  rw [Int.sub_self, Int.mul_zero, Int.add_zero]
theorem seg_step {B : Int} {S T : List Int} (n : Nat) (h : Int) : seg B S T n (h + 1) = seg B S T n h + S.getD n 0 := by
  unfold seg
  rw [show h + 1 - prev T n = (h - prev T n) + 1 by omega, Int.mul_add, Int.mul_one]
  omega
theorem seg_up {B : Int} {S T : List Int} (n : Nat) {h : Int} (hs : 0 ≤ S.getD n 0) (hh : prev T n ≤ h) : B + full S T n ≤ seg B S T n h := by
  unfold seg
  have := Int.mul_nonneg hs (by omega : 0 ≤ h - prev T n)
  omega
def low (B : Int) (S T : List Int) : Nat → Int × Int
  | 0 => (0, B)
  | n + 1 => if B + full S T (n + 1) < (low B S T n).2 then (T.getD n 0, B + full S T (n + 1)) else low B S T n
theorem low_le (B : Int) (S T : List Int) : ∀ n, (low B S T n).2 ≤ B + full S T n := by
  intro n
  cases n with
  | zero => simp only [low, full]; omega
  | succ n =>
    simp only [low]
    split
    · exact Int.le_refl _
    · omega
theorem top_bd {B : Int} {S T : List Int} (hP : AirP B S T) {n : Nat} (hn : n < T.length) : T.getD n 0 ≤ T.getD (T.length - 1) 0 := by
  have := rise_le hP.2.2.2.1 (T.length - 1 - n) n (by omega)
  rwa [show n + (T.length - 1 - n) = T.length - 1 by omega] at this
def pick (B : Int) (S T : List Int) (n : Nat) (h : Int) : Int × Int := if seg B S T n (h - 1) < (low B S T n).2 then (h - 1, seg B S T n (h - 1)) else low B S T n
theorem pick_step (B : Int) (S T : List Int) (n : Nat) {h : Int} (hh : prev T n < h) : (if seg B S T n h < (pick B S T n h).2 then (h, seg B S T n h) else pick B S T n h) = pick B S T n (h + 1) := by
  have e := seg_step (B := B) (S := S) (T := T) n (h - 1)
  rw [show h - 1 + 1 = h by omega] at e
  have hle := low_le B S T n
  unfold pick
  rw [show h + 1 - 1 = h by omega]
  by_cases c : seg B S T n (h - 1) < (low B S T n).2
  · rw [if_pos c]
    have hs : S.getD n 0 < 0 := by
      by_cases c' : 0 ≤ S.getD n 0
      · have := seg_up (B := B) (S := S) (T := T) n c' (h := h - 1) (by omega)
        omega
      · omega
    rw [if_pos (by show seg B S T n h < seg B S T n (h - 1); omega), if_pos (by omega)]
  · rw [if_neg c]
theorem pick_first (B : Int) (S T : List Int) (n : Nat) : pick B S T n (prev T n + 1) = low B S T n := by
  unfold pick
  rw [show prev T n + 1 - 1 = prev T n by omega, seg_prev]
  have := low_le B S T n
  rw [if_neg (by omega)]
theorem pick_last (B : Int) (S T : List Int) (n : Nat) : pick B S T n (T.getD n 0 + 1) = low B S T (n + 1) := by
  unfold pick
  rw [show T.getD n 0 + 1 - 1 = T.getD n 0 by omega, seg_top]
  rfl
theorem impl_cold_loop {B : Int} {S T : List Int} (hP : AirP B S T) : ∀ (d n : Nat) (h : Int), n < T.length → prev T n < h → h ≤ T.getD n 0 → T.getD (T.length - 1) 0 - h = d → Ev (fun k => impl_Coldest.l0 k (pick B S T n h).1 (pick B S T n h).2 (T.getD (T.length - 1) 0 + 1) h B S T) ((low B S T T.length).1, (low B S T T.length).2, true) := by
  intro d
  induction d with
  | zero =>
    intro n h hn h0 h1 hd
    have hb := top_bd hP hn
    have p0 := (prev_bd hP (n := n) (by omega)).1
    have tb := hP.2.2.2.2.1 n hn
    have hh : h = T.getD n 0 := by omega
    have hlast : n + 1 = T.length := by
      by_cases e : n + 1 = T.length
      · exact e
      · exfalso
        have a := hP.2.2.2.1 n (by omega)
        have := top_bd hP (n := n + 1) (by omega)
        omega
    have w := impl_warm_ev hP (h := h) (by omega) (by omega)
    rw [seg_ev hP hn (by omega) h1] at w
    have st := pick_step B S T n h0
    have lst := pick_last B S T n
    rw [← hh, hlast] at lst
    have fin : ∀ p : Int × Int, p = low B S T T.length → Ev (fun k => impl_Coldest.l0 k p.1 p.2 (T.getD (T.length - 1) 0 + 1) (h + 1) B S T) ((low B S T T.length).1, (low B S T T.length).2, true) := by
      intro p hp
      rw [hp]
      refine ev_succ ?_
      simp only [impl_Coldest.l0]
      exact ev_neg (by omega) (Ev.now _)
    refine ev_succ ?_
    simp only [impl_Coldest.l0]
    rw [w64 (x := h + 1) (by omega) (by omega)]
    refine ev_pos (by omega) (Ev.bind w ?_)
    by_cases c : seg B S T n h < (pick B S T n h).2
    · rw [if_pos c] at st
      exact ev_pos c (fin (h, seg B S T n h) (st.trans lst))
    · rw [if_neg c] at st
      exact ev_neg c (fin _ (st.trans lst))
  | succ d ih =>
    intro n h hn h0 h1 hd
    have hb := top_bd hP hn
    have p0 := (prev_bd hP (n := n) (by omega)).1
    have tb := hP.2.2.2.2.1 n hn
    have w := impl_warm_ev hP (h := h) (by omega) (by omega)
    rw [seg_ev hP hn (by omega) h1] at w
    have st := pick_step B S T n h0
    have nxt : ∀ p : Int × Int, p = pick B S T n (h + 1) → Ev (fun k => impl_Coldest.l0 k p.1 p.2 (T.getD (T.length - 1) 0 + 1) (h + 1) B S T) ((low B S T T.length).1, (low B S T T.length).2, true) := by
      intro p hp
      rw [hp]
      by_cases e : h = T.getD n 0
      · by_cases hl : n + 1 = T.length
        · exfalso
          rw [show T.length - 1 = n by omega] at hd
          omega
        · have := ih (n + 1) (h + 1) (by omega) (by rw [prev_succ]; omega) (by have := hP.2.2.2.1 n (by omega); omega) (by omega)
          have pf := pick_first B S T (n + 1)
          rw [prev_succ, ← e] at pf
          have pl := pick_last B S T n
          rw [← e] at pl
          rw [pf, ← pl] at this
          exact this
      · exact ih n (h + 1) hn (by omega) (by omega) (by omega)
    refine ev_succ ?_
    simp only [impl_Coldest.l0]
    rw [w64 (x := h + 1) (by omega) (by omega)]
    refine ev_pos (by omega) (Ev.bind w ?_)
    by_cases c : seg B S T n h < (pick B S T n h).2
    · rw [if_pos c] at st
      exact ev_pos c (nxt (h, seg B S T n h) st)
    · rw [if_neg c] at st
      exact ev_neg c (nxt _ st)
theorem impl_cold_start {B : Int} {S T : List Int} (hP : AirP B S T) : Ev (fun k => impl_Coldest.l0 k 0 B (T.getD (T.length - 1) 0 + 1) 0 B S T) ((low B S T T.length).1, (low B S T T.length).2, true) := by
  have hl : 1 ≤ T.length := by have := hP.2.1; have := hP.2.2.1; omega
  have t0 := hP.2.2.2.2.1 0 (by omega)
  have tb := top_bd hP (n := 0) (by omega)
  have tl := hP.2.2.2.2.1 (T.length - 1) (by omega)
  have w := impl_warm_ev hP (h := 0) (by omega) (by omega)
  rw [seg_ev hP (n := 0) (by omega) (by rw [prev_zero]; omega) (by omega)] at w
  have e : seg B S T 0 0 = B := by
    have := seg_prev (B := B) (S := S) (T := T) 0
    rw [prev_zero] at this
    rw [this]
    simp only [full]
    omega
  rw [e] at w
  have st := impl_cold_loop hP (T.getD (T.length - 1) 0 - 1).toNat 0 1 (by omega) (by rw [prev_zero]; omega) (by omega) (by omega)
  have pf := pick_first B S T 0
  rw [prev_zero, show (0 : Int) + 1 = 1 from rfl] at pf
  rw [pf] at st
  refine ev_succ ?_
  simp only [impl_Coldest.l0]
  rw [w64 (x := 0 + 1) (by omega) (by omega)]
  exact ev_pos (by omega) (Ev.bind w (ev_neg (by omega) st))

theorem big_ev {l : List Int} (h : l.length ≤ 1048576) : laws_big.f l = some false := by
  unfold laws_big.f
  rw [decide_eq_false (by omega)]
theorem big_big {l : List Int} (h : ¬ l.length ≤ 1048576) : laws_big.f l = some true := by
  unfold laws_big.f
  rw [decide_eq_true (by omega)]

theorem wrap_i64_eq (n : Int) : IntKind.i64.wrap n = wrap64 n := by
  rw [IntKind.wrap_i64, wrap64]
theorem and_255 (x : Int) : 0 ≤ Go.bits .and .i64 x 255 ∧ Go.bits .and .i64 x 255 ≤ 255 := by
  have h : (BitVec.ofInt 64 x &&& BitVec.ofInt 64 255).toNat ≤ 255 := by
    rw [BitVec.toNat_and]
    exact Nat.le_trans Nat.and_le_right (by decide)
  show 0 ≤ IntKind.i64.wrap ((BitVec.ofInt 64 x &&& BitVec.ofInt 64 255).toNat : Int) ∧ IntKind.i64.wrap ((BitVec.ofInt 64 x &&& BitVec.ofInt 64 255).toNat : Int) ≤ 255
  generalize (BitVec.ofInt 64 x &&& BitVec.ofInt 64 255).toNat = m at h
  rw [wrap_i64_eq, w64 (by omega) (by omega)]
  omega
theorem new_loop (l : List Int) (hl : l.length ≤ 1048576) : ∀ (d n : Nat) (s : Int), n + d = l.length → ∃ s', Ev (fun k => spec_l1New.l0 k l s (n : Int)) (l, 0, s') := by
  intro d
  induction d with
  | zero =>
    intro n s hn
    refine ⟨s, ev_succ ?_⟩
    simp only [spec_l1New.l0]
    exact ev_neg (by omega) (Ev.now _)
  | succ d ih =>
    intro n s hn
    by_cases h : (n : Int) < 4000
    · obtain ⟨s', e⟩ := ih (n + 1) (Go.bits .and .i64 (wrap64 ((wrap64 ((wrap64 (s * 131)) + (wrap64 (rd l (n : Int))))) + 7)) 1073741823) (by omega)
      refine ⟨s', ev_succ ?_⟩
      simp only [spec_l1New.l0]
      rw [w64_succ (m := l.length) (n := n) (by omega) (by omega)]
      exact ev_pos (by omega) (ev_pos h (ev_pos (by omega) e))
    · refine ⟨s, ev_succ ?_⟩
      simp only [spec_l1New.l0]
      exact ev_pos (by omega) (ev_neg h (Ev.now _))
theorem new_ev (l : List Int) (hl : l.length ≤ 1048576) : ∃ s, Ev (fun k => spec_l1New.f k l) (l, 0, s) := by
  unfold spec_l1New.f
  exact new_loop l hl l.length 0 _ (by omega)
def At_ (l : List Int) (pos : Int) : Prop := 0 ≤ pos ∧ pos ≤ l.length
theorem byte_eq {l : List Int} (hl : l.length ≤ 1048576) {pos : Int} (hp : At_ l pos) (s : Int) : ∃ b pos' s', spec_l1Byte.f l pos s = some (b, pos', s') ∧ 0 ≤ b ∧ b ≤ 255 ∧ At_ l pos' := by
  obtain ⟨h0, h1⟩ := hp
  unfold spec_l1Byte.f
  by_cases h : pos < (l.length : Int)
  · rw [if_pos h, if_pos h0]
    refine ⟨_, _, _, rfl, (and_255 _).1, (and_255 _).2, ?_⟩
    rw [w64 (by omega) (by omega)]
    exact ⟨by omega, by omega⟩
  · rw [if_neg h]
    exact ⟨_, _, _, rfl, (and_255 _).1, (and_255 _).2, h0, h1⟩
theorem tmod_bd {x a : Int} (h0 : 0 ≤ x) (ha : 1 ≤ a) : 0 ≤ Int.tmod x a ∧ Int.tmod x a < a := by
  rw [Int.tmod_eq_emod_of_nonneg h0]
  exact ⟨Int.emod_nonneg _ (by omega), Int.emod_lt_of_pos _ (by omega)⟩
theorem below_eq {l : List Int} (hl : l.length ≤ 1048576) {pos : Int} (hp : At_ l pos) (s : Int) {a : Int} (ha : 1 ≤ a) : ∃ v pos' s', spec_l1Below.f l pos s a = some (v, pos', s') ∧ 0 ≤ v ∧ v < a ∧ At_ l pos' := by
  unfold spec_l1Below.f
  rw [if_neg (by omega)]
  obtain ⟨b0, p0, s0, e0, l0, u0, q0⟩ := byte_eq hl hp s
  obtain ⟨b1, p1, s1, e1, l1, u1, q1⟩ := byte_eq hl q0 s0
  obtain ⟨b2, p2, s2, e2, l2, u2, q2⟩ := byte_eq hl q1 s1
  obtain ⟨b3, p3, s3, e3, l3, u3, q3⟩ := byte_eq hl q2 s2
  by_cases h : a ≤ 256
  · rw [if_pos h, e0]
    simp only [Option.bind_some]
    rw [if_neg (by omega)]
    obtain ⟨t0, t1⟩ := tmod_bd l0 ha
    exact ⟨_, _, _, rfl, t0, t1, q0⟩
  · rw [if_neg h, e0]
    simp only [Option.bind_some, e1, e2, e3]
    rw [if_neg (by omega)]
    have w0 : wrap64 (b0 * 16777216) = b0 * 16777216 := w64 (by omega) (by omega)
    have w1 : wrap64 (b1 * 65536) = b1 * 65536 := w64 (by omega) (by omega)
    have w2 : wrap64 (b2 * 256) = b2 * 256 := w64 (by omega) (by omega)
    have w3 : wrap64 (b0 * 16777216 + b1 * 65536) = b0 * 16777216 + b1 * 65536 := w64 (by omega) (by omega)
    have w4 : wrap64 (b0 * 16777216 + b1 * 65536 + b2 * 256) = b0 * 16777216 + b1 * 65536 + b2 * 256 := w64 (by omega) (by omega)
    have w5 : wrap64 (b0 * 16777216 + b1 * 65536 + b2 * 256 + b3) = b0 * 16777216 + b1 * 65536 + b2 * 256 + b3 := w64 (by omega) (by omega)
    rw [w0, w1, w2, w3, w4, w5]
    obtain ⟨t0, t1⟩ := tmod_bd (x := b0 * 16777216 + b1 * 65536 + b2 * 256 + b3) (by omega) ha
    exact ⟨_, _, _, rfl, t0, t1, q3⟩

theorem pick_eq {l : List Int} (hl : l.length ≤ 1048576) {pos : Int} (hp : At_ l pos) (s : Int) (q : List Int) (h1 : 1 ≤ q.length) : ∃ v pos' s', spec_l1PickInt.f l pos s q = some (v, pos', s') ∧ At_ l pos' := by
  obtain ⟨v, p', s', e, v0, v1, q1⟩ := below_eq hl hp s (a := (q.length : Int)) (by omega)
  unfold spec_l1PickInt.f
  rw [e]
  simp only [Option.bind_some]
  rw [if_pos v0, if_pos v1]
  exact ⟨_, _, _, rfl, q1⟩
theorem rise_draw {l : List Int} (hl : l.length ≤ 1048576) (x1 x3 : Int) (h1 : x1 ≤ 100) (h3 : 1 ≤ x3) : ∀ (d n : Nat) (q : List Int) (o pos s : Int), (n : Int) + d = x1 → q.length = n → At_ l pos → ∃ (R : List Int) (pos' s' : Int), Ev (fun k => spec_l1DrawRise.l0 k x1 x3 q o (n : Int) l pos s) (R, pos', s') ∧ (R.length : Int) = x1 ∧ At_ l pos' := by
  intro d
  induction d with
  | zero =>
    intro n q o pos s hn hq hp
    refine ⟨q, pos, s, ev_succ ?_, by omega, hp⟩
    simp only [spec_l1DrawRise.l0]
    exact ev_neg (by omega) (Ev.now _)
  | succ d ih =>
    intro n q o pos s hn hq hp
    obtain ⟨v, p', s', e, v0, v1, q1⟩ := below_eq hl hp s h3
    have hn1 : n < 1000 := by omega
    have hw := w64_succ (n := n) (m := 1000) hn1 (by omega)
    obtain ⟨R, p2, s2, h4, h5, h6⟩ := ih (n + 1) (q ++ [o]) (wrap64 ((wrap64 (o + 1)) + v)) p' s' (by omega) (by simp; omega) q1
    have hq1 : q.length < 17592186044416 := Nat.lt_trans (show q.length < 1000 by omega) (by decide)
    refine ⟨R, p2, s2, ev_succ ?_, h5, h6⟩
    simp only [spec_l1DrawRise.l0, e, hw, Option.bind_some]
    exact ev_pos (by omega) (ev_pos hq1 h4)
theorem air_loop {l : List Int} (hl : l.length ≤ 1048576) (T : List Int) (hT : 1 ≤ T.length ∧ T.length ≤ 10) (g : Int) : ∀ (d n : Nat) (S : List Int) (pos s : Int), n + d = T.length → S.length = n → At_ l pos → ∃ (B : Int) (S' T' : List Int) (p' s' : Int), Ev (fun k => spec_l1DrawAir.l0 k (n : Int) l pos s g S T) (B, S', T', p', s') ∧ S'.length ≤ 20 ∧ T'.length ≤ 20 := by
  intro d
  induction d with
  | zero =>
    intro n S pos s hn hS hp
    obtain ⟨v, p', s', e, v0, v1, q1⟩ := below_eq hl hp s (a := 30) (by omega)
    have go : ∀ (B : Int) (S' T' : List Int) (p2 s2 : Int), S'.length ≤ 20 → T'.length ≤ 20 → Ev (fun k => spec_l1DrawAir.l0 k (n : Int) l pos s g S T) (B, S', T', p2, s2) → ∃ (B : Int) (S' T' : List Int) (p' s' : Int), Ev (fun k => spec_l1DrawAir.l0 k (n : Int) l pos s g S T) (B, S', T', p', s') ∧ S'.length ≤ 20 ∧ T'.length ≤ 20 := fun B S' T' p2 s2 a b c => ⟨B, S', T', p2, s2, c, a, b⟩
    have hS2 : S.length < 17592186044416 := Nat.lt_trans (show S.length < 1000 by omega) (by decide)
    have hT2 : T.length < 17592186044416 := Nat.lt_trans (show T.length < 1000 by omega) (by decide)
    have hS1 : S.length ≤ 10 := by omega
    have hS0 : (0 : Int) < (S.length : Int) := by omega
    have hT0 : (0 : Int) < (T.length : Int) := by omega
    have hnn : ¬ ((n : Int) < (T.length : Int)) := by omega
    by_cases c0 : v = 0
    · obtain ⟨b, p2, s2, e2, _⟩ := pick_eq hl q1 s' [-101, -100, 100, 101] (by decide)
      refine go b S T p2 s2 (by omega) (by omega) (ev_succ ?_)
      simp only [spec_l1DrawAir.l0, e, e2, Option.bind_some]
      exact ev_neg hnn (ev_pos c0 (Ev.now _))
    by_cases c1 : v = 1
    · obtain ⟨b, p2, s2, e2, _⟩ := pick_eq hl q1 s' [-21, -20, 20, 21] (by decide)
      refine go g (S.set 0 b) T p2 s2 (by rw [List.length_set]; omega) (by omega) (ev_succ ?_)
      simp only [spec_l1DrawAir.l0, e, e2, Option.bind_some]
      exact ev_neg hnn (ev_neg c0 (ev_pos c1 (ev_pos hS0 (Ev.now _))))
    by_cases c2 : v = 2
    · obtain ⟨b, p2, s2, e2, _⟩ := below_eq hl q1 s' (a := 2) (by omega)
      refine go g (S ++ [0]) (T ++ [wrap64 (1000 + b)]) p2 s2 (by rw [List.length_append]; simp; omega) (by rw [List.length_append]; simp; omega) (ev_succ ?_)
      simp only [spec_l1DrawAir.l0, e, e2, Option.bind_some]
      exact ev_neg hnn (ev_neg c0 (ev_neg c1 (ev_pos c2 (ev_pos hT2 (ev_pos hS2 (Ev.now _))))))
    by_cases c3 : v = 3
    · refine go g S (T.set 0 0) p' s' (by omega) (by rw [List.length_set]; omega) (ev_succ ?_)
      simp only [spec_l1DrawAir.l0, e, Option.bind_some]
      exact ev_neg hnn (ev_neg c0 (ev_neg c1 (ev_neg c2 (ev_pos c3 (ev_pos hT0 (Ev.now _))))))
    by_cases c4 : v = 4
    · refine go 0 [] [] p' s' (by simp) (by simp) (ev_succ ?_)
      simp only [spec_l1DrawAir.l0, e, Option.bind_some]
      exact ev_neg hnn (ev_neg c0 (ev_neg c1 (ev_neg c2 (ev_neg c3 (ev_pos c4 (Ev.now _))))))
    · refine go g S T p' s' (by omega) (by omega) (ev_succ ?_)
      simp only [spec_l1DrawAir.l0, e, Option.bind_some]
      exact ev_neg hnn (ev_neg c0 (ev_neg c1 (ev_neg c2 (ev_neg c3 (ev_neg c4 (Ev.now _))))))
  | succ d ih =>
    intro n S pos s hn hS hp
    obtain ⟨v, p', s', e, v0, v1, q1⟩ := below_eq hl hp s (a := 15) (by omega)
    have hw := w64_succ (n := n) (m := T.length) (by omega) (by omega)
    obtain ⟨B, S', T', p2, s2, h4, h5, h6⟩ := ih (n + 1) (S ++ [wrap64 (v - 9)]) p' s' (by omega) (by simp; omega) q1
    have hS2 : S.length < 17592186044416 := Nat.lt_trans (show S.length < 1000 by omega) (by decide)
    refine ⟨B, S', T', p2, s2, ev_succ ?_, h5, h6⟩
    simp only [spec_l1DrawAir.l0, e, hw, Option.bind_some]
    exact ev_pos (by omega) (ev_pos hS2 h4)
theorem air_draw (l : List Int) (hl : l.length ≤ 1048576) : ∃ (B : Int) (S T : List Int), Ev (fun k => spec_DrawAirOk.f k l) (B, S, T) ∧ S.length ≤ 20 ∧ T.length ≤ 20 := by
  obtain ⟨s0, h0⟩ := new_ev l hl
  have hp : At_ l 0 := ⟨by omega, by omega⟩
  obtain ⟨a, p1, s1, e1, a0, a1, q1⟩ := below_eq hl hp s0 (a := 41) (by omega)
  obtain ⟨b, p2, s2, e2, b0, b1, q2⟩ := below_eq hl q1 s1 (a := 4) (by omega)
  obtain ⟨c, p3, s3, e3, c0, c1, q3⟩ := below_eq hl q2 s2 (a := 20) (by omega)
  have wb : wrap64 (1 + b) = 1 + b := w64 (by omega) (by omega)
  obtain ⟨R, p4, s4, h4, h5, h6⟩ := rise_draw hl (1 + b) 20 (by omega) (by omega) (1 + b).toNat 0 [] (wrap64 (1 + c)) p3 s3 (by omega) rfl q3
  obtain ⟨B, S, T, p5, s5, h7, h8, h9⟩ := air_loop hl R (by omega) (wrap64 (a - 20)) R.length 0 [] p4 s4 (by omega) rfl h6
  have hA : Ev (fun k => spec_l1DrawAir.f k l 0 s0) (B, S, T, p5, s5) := by
    unfold spec_l1DrawAir.f spec_l1DrawRise.f
    simp only [e1, e2, e3, wb, Option.bind_some]
    exact Ev.bind h4 h7
  refine ⟨B, S, T, ?_, h8, h9⟩
  unfold spec_DrawAirOk.f
  exact Ev.bind h0 (Ev.bind hA (Ev.now _))
section
variable {B : Int} {S T : List Int}
theorem find_seg (T : List Int) {i : Int} (h0 : 0 ≤ i) : ∀ m : Nat, i < prev T m → ∃ n, n < m ∧ prev T n ≤ i ∧ i < T.getD n 0 := by
  intro m
  induction m with
  | zero => intro h; rw [prev_zero] at h; omega
  | succ m ih =>
    intro h
    rw [prev_succ] at h
    by_cases c : prev T m ≤ i
    · exact ⟨m, by omega, c, h⟩
    · obtain ⟨n, h1, h2, h3⟩ := ih (by omega)
      exact ⟨n, by omega, h2, h3⟩
theorem low_mono (B : Int) (S T : List Int) (n : Nat) : ∀ d, (low B S T (n + d)).2 ≤ (low B S T n).2 := by
  intro d
  induction d with
  | zero => exact Int.le_refl _
  | succ d ih =>
    show (low B S T ((n + d) + 1)).2 ≤ _
    simp only [low]
    split
    · rename_i h; show B + full S T (n + d + 1) ≤ _; omega
    · exact ih
theorem low_all (B : Int) (S T : List Int) {j m : Nat} (h : j ≤ m) : (low B S T m).2 ≤ B + full S T j := by
  have h1 := low_mono B S T j (m - j)
  rw [show j + (m - j) = m by omega] at h1
  exact Int.le_trans h1 (low_le B S T j)
theorem low_spec (B : Int) (S T : List Int) : ∀ m, ∃ j, j ≤ m ∧ low B S T m = (prev T j, B + full S T j) ∧ ∀ j', j' < j → (low B S T m).2 < B + full S T j' := by
  intro m
  induction m with
  | zero => exact ⟨0, Nat.le_refl _, by simp [low, prev, full], fun j' h => by omega⟩
  | succ m ih =>
    simp only [low]
    split
    · rename_i h
      refine ⟨m + 1, Nat.le_refl _, rfl, fun j' hj => ?_⟩
      have := low_all B S T (show j' ≤ m by omega)
      show B + full S T (m + 1) < _
      omega
    · obtain ⟨j, h1, h2, h3⟩ := ih
      exact ⟨j, by omega, h2, h3⟩
theorem seg_ge (n : Nat) {i : Int} (h0 : prev T n ≤ i) (h1 : i ≤ T.getD n 0) {t : Int} (a : t ≤ B + full S T n) (b : t ≤ B + full S T (n + 1)) : t ≤ seg B S T n i := by
  unfold seg
  simp only [full] at b
  by_cases hs : 0 ≤ S.getD n 0
  · have := Int.mul_nonneg hs (show 0 ≤ i - prev T n by omega)
    omega
  · have := Int.mul_le_mul_of_nonpos_left (a := S.getD n 0) (b := T.getD n 0 - prev T n) (c := i - prev T n) (by omega) (by omega)
    omega
theorem seg_gt (n : Nat) {i : Int} (h0 : prev T n ≤ i) (h1 : i < T.getD n 0) {t : Int} (a : t < B + full S T n) (b : t ≤ B + full S T (n + 1)) : t < seg B S T n i := by
  unfold seg
  simp only [full] at b
  by_cases hs : 0 ≤ S.getD n 0
  · have := Int.mul_nonneg hs (show 0 ≤ i - prev T n by omega)
    omega
  · have := Int.mul_le_mul_of_nonpos_left (a := S.getD n 0) (b := T.getD n 0 - prev T n) (c := (i + 1) - prev T n) (by omega) (by omega)
    have e : S.getD n 0 * (i + 1 - prev T n) = S.getD n 0 * (i - prev T n) + S.getD n 0 := by
      rw [show i + 1 - prev T n = (i - prev T n) + 1 by omega, Int.mul_add, Int.mul_one]
    omega
end
def W_ (B : Int) (S T : List Int) (h : Int) : Int := B + wsum S T h T.length
theorem W_at {B : Int} {S T : List Int} (hP : AirP B S T) {j : Nat} (hj : j ≤ T.length) : W_ B S T (prev T j) = B + full S T j := by
  have hl : 1 ≤ T.length := by have := hP.2.1; have := hP.2.2.1; omega
  unfold W_
  cases j with
  | zero =>
    have := prev_lt hP (n := 0) (by omega)
    rw [seg_ev hP (n := 0) (by omega) (Int.le_refl _) (by omega), seg_prev]
  | succ j =>
    have := prev_lt hP (n := j) (by omega)
    rw [prev_succ, seg_ev hP (n := j) (by omega) (by omega) (Int.le_refl _), seg_top]
theorem W_ge {B : Int} {S T : List Int} (hP : AirP B S T) {i : Int} (h0 : 0 ≤ i) (h1 : i ≤ T.getD (T.length - 1) 0) : (low B S T T.length).2 ≤ W_ B S T i := by
  have hl : 1 ≤ T.length := by have := hP.2.1; have := hP.2.2.1; omega
  by_cases c : i = T.getD (T.length - 1) 0
  · have e : prev T T.length = T.getD (T.length - 1) 0 := by unfold prev; rw [if_neg (by omega)]
    rw [c, ← e, W_at hP (Nat.le_refl _)]
    exact low_all B S T (Nat.le_refl _)
  · obtain ⟨n, h2, h3, h4⟩ := find_seg T h0 T.length (by unfold prev; rw [if_neg (by omega)]; omega)
    unfold W_
    rw [seg_ev hP h2 h3 (by omega)]
    exact seg_ge n h3 (by omega) (low_all B S T (by omega)) (low_all B S T (by omega))
theorem W_gt {B : Int} {S T : List Int} (hP : AirP B S T) {i : Int} (h0 : 0 ≤ i) (h1 : i < (low B S T T.length).1) : (low B S T T.length).2 < W_ B S T i := by
  obtain ⟨j, j1, j2, j3⟩ := low_spec B S T T.length
  rw [j2] at h1
  obtain ⟨n, h2, h3, h4⟩ := find_seg T h0 j h1
  unfold W_
  rw [seg_ev hP (show n < T.length by omega) h3 (by omega)]
  exact seg_gt n h3 h4 (j3 n h2) (low_all B S T (by omega))
theorem low_at {B : Int} {S T : List Int} (hP : AirP B S T) : W_ B S T (low B S T T.length).1 = (low B S T T.length).2 ∧ 0 ≤ (low B S T T.length).1 ∧ (low B S T T.length).1 ≤ T.getD (T.length - 1) 0 := by
  obtain ⟨j, j1, j2, j3⟩ := low_spec B S T T.length
  have hl : 1 ≤ T.length := by have := hP.2.1; have := hP.2.2.1; omega
  rw [j2]
  refine ⟨W_at hP j1, (prev_bd hP j1).1, ?_⟩
  cases j with
  | zero => have := hP.2.2.2.2.1 (T.length - 1) (by omega); rw [prev_zero]; omega
  | succ j => rw [prev_succ]; exact top_bd hP (by omega)
theorem W_diff {B : Int} {S T : List Int} (hP : AirP B S T) {i : Int} (h0 : 0 ≤ i) (h1 : i < T.getD (T.length - 1) 0) : ∃ n, n < S.length ∧ W_ B S T (i + 1) - W_ B S T i = S.getD n 0 := by
  have hl : 1 ≤ T.length := by have := hP.2.1; have := hP.2.2.1; omega
  obtain ⟨n, h2, h3, h4⟩ := find_seg T h0 T.length (by unfold prev; rw [if_neg (by omega)]; omega)
  refine ⟨n, by have := hP.2.2.1; omega, ?_⟩
  unfold W_
  rw [seg_ev hP h2 h3 (by omega), seg_ev hP h2 (by omega) (by omega), seg_step]
  omega
theorem Warm_in {B : Int} {S T : List Int} (hP : AirP B S T) {i : Int} (h0 : 0 ≤ i) (h1 : i ≤ T.getD (T.length - 1) 0) : Ev (fun k => impl_Warm.f k B S T i) (W_ B S T i, true) := by
  obtain ⟨hB, hlen, he, hrise, hT, hS⟩ := id hP
  obtain ⟨b, hb, ib⟩ := impl_air_ev B S T (by omega)
  obtain rfl : b = true := ib.2 hP
  have e := last_eq (T := T) (by omega) (by omega)
  obtain ⟨t1, t2⟩ := hT (T.length - 1) (by omega)
  unfold impl_Warm.f
  simp only [e, rd_nat, impl_in_eq, Option.bind_some, decide_eq_true (show 0 ≤ i ∧ i ≤ T.getD (T.length - 1) 0 from ⟨h0, h1⟩)]
  exact Ev.bind hb (ev_pos rfl (ev_pos (by omega) (ev_pos (by omega) (ev_pos (by trivial) (Ev.bind (impl_warm_ev hP h0 (by omega)) (Ev.now _))))))
theorem Warm_out {B : Int} {S T : List Int} (hP : AirP B S T) {i : Int} (h1 : T.getD (T.length - 1) 0 < i) : Ev (fun k => impl_Warm.f k B S T i) (0, false) := by
  obtain ⟨hB, hlen, he, hrise, hT, hS⟩ := id hP
  obtain ⟨b, hb, ib⟩ := impl_air_ev B S T (by omega)
  obtain rfl : b = true := ib.2 hP
  have e := last_eq (T := T) (by omega) (by omega)
  unfold impl_Warm.f
  simp only [e, rd_nat, impl_in_eq, Option.bind_some, decide_eq_false (show ¬ (0 ≤ i ∧ i ≤ T.getD (T.length - 1) 0) from fun h => by omega)]
  exact Ev.bind hb (ev_pos rfl (ev_pos (by omega) (ev_pos (by omega) (ev_neg (by decide) (Ev.now _)))))
theorem within_ev (S : List Int) (hl : S.length ≤ 1000) (x : Int) (n : Nat) (hn : n < S.length) (hx : S.getD n 0 = x) : ∀ (d m : Nat), m + d = n → Ev (fun k => laws_within.l0 k S x (m : Int)) true := by
  intro d
  induction d with
  | zero =>
    intro m hm
    obtain rfl : m = n := by omega
    refine ev_succ ?_
    simp only [laws_within.l0, rd_nat]
    exact ev_pos (by omega) (ev_pos (by omega) (ev_pos hx (Ev.now _)))
  | succ d ih =>
    intro m hm
    have hw := w64_succ (n := m) (m := S.length) (by omega) (by omega)
    refine ev_succ ?_
    simp only [laws_within.l0, rd_nat, hw]
    refine ev_pos (by omega) (ev_pos (by omega) ?_)
    by_cases h : S.getD m 0 = x
    · exact ev_pos h (Ev.now _)
    · exact ev_neg h (ih (m + 1) (by omega))
theorem air_check {B : Int} {S T : List Int} (hP : AirP B S T) : ∀ (d : Nat) (i : Int), 0 ≤ i → i + d = 41 → Ev (fun k => laws_FnAir.l0 k (low B S T T.length).1 (low B S T T.length).2 (T.getD (T.length - 1) 0) i B S T) true := by
  obtain ⟨hB, hlen, he, hrise, hT, hS⟩ := id hP
  obtain ⟨t1, t2⟩ := hT (T.length - 1) (by omega)
  generalize htop : T.getD (T.length - 1) 0 = top at *
  have wtop : wrap64 (top + 1) = top + 1 := w64 (by omega) (by omega)
  have last : ∀ i : Int, Ev (fun k => laws_FnAir.j2 k (low B S T T.length).1 (low B S T T.length).2 top i false B S T) true := by
    intro i
    refine ev_succ ?_
    simp only [laws_FnAir.j2, wtop]
    exact ev_neg (by decide) (Ev.bind (Warm_out hP (by rw [htop]; omega)) (Ev.now _))
  intro d
  induction d with
  | zero =>
    intro i h0 hi
    refine ev_succ ?_
    simp only [laws_FnAir.l0]
    exact ev_neg (by omega) (last i)
  | succ d ih =>
    intro i h0 hi
    refine ev_succ ?_
    simp only [laws_FnAir.l0]
    refine ev_pos (by omega) ?_
    by_cases ht : i ≤ top
    rotate_left
    · rw [decide_eq_false ht]
      exact last i
    rw [decide_eq_true ht]
    have wi : wrap64 (i + 1) = i + 1 := w64 (by omega) (by omega)
    have nx := ih (i + 1) (by omega) (by omega)
    have j4 : Ev (fun k => laws_FnAir.j4 k (low B S T T.length).1 (low B S T T.length).2 top i false B S T) true := by
      refine ev_succ ?_
      simp only [laws_FnAir.j4, wi]
      exact ev_neg (by decide) nx
    have j3 : Ev (fun k => laws_FnAir.j3 k (low B S T T.length).1 (low B S T T.length).2 top i (W_ B S T i) false B S T) true := by
      refine ev_succ ?_
      simp only [laws_FnAir.j3, wi]
      refine ev_neg (by decide) ?_
      by_cases h1 : i < top
      · obtain ⟨n, hn, hd⟩ := W_diff hP h0 (by rw [htop]; exact h1)
        have hs := hS n hn
        have wd : wrap64 (W_ B S T (i + 1) - W_ B S T i) = S.getD n 0 := by rw [hd]; exact w64 (by omega) (by omega)
        refine Ev.bind (Warm_in hP (by omega) (by rw [htop]; omega)) (ev_pos (by trivial) ?_)
        rw [wd]
        exact Ev.bind (g := fun k => laws_within.f k S (S.getD n 0)) (within_ev S (by omega) _ n hn rfl n 0 (by omega)) j4
      · exact Ev.bind (Warm_out hP (by rw [htop]; omega)) (ev_neg (by decide) j4)
    have hge := W_ge hP h0 (by rw [htop]; exact ht)
    refine ev_succ ?_
    simp only [laws_FnAir.j2]
    refine ev_pos (by trivial) (Ev.bind (Warm_in hP h0 (by rw [htop]; exact ht)) (ev_pos (by trivial) (ev_neg (by show ¬ W_ B S T i < _; omega) ?_)))
    by_cases hh : i < (low B S T T.length).1
    · have hgt := W_gt hP h0 hh
      refine ev_pos hh ?_
      have e : (W_ B S T i == (low B S T T.length).2) = false := beq_eq_false_iff_ne.mpr (by omega)
      show Ev (fun k => laws_FnAir.j3 k _ _ top i (W_ B S T i) (W_ B S T i == (low B S T T.length).2) B S T) true
      rw [e]
      exact j3
    · exact ev_neg hh j3
theorem FnAir : laws_FnAir.PureR := by
  intro l ⟨_, hu⟩
  refine Ev.rounds ?_
  unfold laws_FnAir.f
  by_cases hL : l.length ≤ 1048576
  rotate_left
  · rw [big_big hL]
    exact Ev.now _
  rw [big_ev hL]
  simp only [Option.bind_some]
  refine ev_neg (by decide) ?_
  obtain ⟨B, S, T, hd, hS, hT⟩ := air_draw l hL
  have hST : S.length + T.length ≤ 1048576 := by omega
  obtain ⟨b, hb, hc, ib⟩ := (spec_air_ev B S T hST).same (impl_air_ev B S T hST)
  cases b with
  | false =>
    have cold : Ev (fun k => impl_Coldest.f k B S T) (0, 0, false) := by
      unfold impl_Coldest.f
      exact Ev.bind hc (ev_neg (by decide) (Ev.now _))
    exact Ev.bind hd (Ev.bind cold (Ev.bind hb (ev_neg (by decide) (ev_neg (by decide) (ev_pos (by trivial) (ev_pos (by trivial) (Ev.bind hc (Ev.now _))))))))
  | true =>
    have hP := ib.1 rfl
    obtain ⟨hB, hlen, he, hrise, hTT, hSS⟩ := id hP
    have e := last_eq (T := T) (by omega) (by omega)
    obtain ⟨t1, t2⟩ := hTT (T.length - 1) (by omega)
    obtain ⟨a1, a2, a3⟩ := low_at hP
    have w1 : wrap64 (T.getD (T.length - 1) 0 + 1) = T.getD (T.length - 1) 0 + 1 := w64 (by omega) (by omega)
    have cold : Ev (fun k => impl_Coldest.f k B S T) ((low B S T T.length).1, (low B S T T.length).2, true) := by
      unfold impl_Coldest.f
      simp only [e, rd_nat, w1]
      exact Ev.bind hc (ev_pos (by trivial) (ev_pos (by omega) (ev_pos (by omega) (impl_cold_start hP))))
    refine Ev.bind hd (Ev.bind cold (Ev.bind hb (ev_pos (by trivial) ?_)))
    simp only [e, rd_nat]
    refine ev_pos (by omega) (ev_pos (by omega) (Ev.bind (Warm_in hP a2 a3) (ev_pos (by trivial) (ev_pos (by trivial) (ev_pos a1 (ev_neg (by show ¬ (low B S T T.length).1 < 0; omega) ?_))))))
    have ed : decide ((low B S T T.length).1 > T.getD (T.length - 1) 0) = false := decide_eq_false (by omega)
    show Ev (fun k => laws_FnAir.j0 k (low B S T T.length).1 (low B S T T.length).2 (T.getD (T.length - 1) 0) (decide ((low B S T T.length).1 > T.getD (T.length - 1) 0)) B S T) true
    rw [ed]
    refine ev_succ ?_
    simp only [laws_FnAir.j0]
    exact ev_neg (by decide) (air_check hP 41 0 (by omega) (by omega))

end Go.Proofs.Ytkginilghcepbaa.Pure
