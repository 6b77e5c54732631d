/- Proved here: the program's and the reference's test of a grid are the same function of its lists; no condition. -/
import Derived.Test.YtgbkmbdciknedaaPureDefFnExactGridOk
namespace Go.Proofs.Ytgbkmbdciknedaa.Pure
open Go.RowKit Go.Proofs.Ytgbkmbdciknedaa.QFnExactGridOk Go.Proofs.YtgbkmbdciknedaaW.PrintWords Go.Proofs.YtgbkmbdciknedaaW.PrintLast Go.Proofs.YtgbkmbdciknedaaW.PrintMore
set_option linter.unusedVariables false
set_option linter.unusedSimpArgs false

theorem ev_pos {c : Prop} [Decidable c] {α : Type} {A B : Nat → Option α} {r : α} (h : c) (k : Ev A r) : Ev (fun n => if c then A n else B n) r := by
  simpa only [if_pos h] using k
theorem ev_neg {c : Prop} [Decidable c] {α : Type} {A B : Nat → Option α} {r : α} (h : ¬ c) (k : Ev B r) : Ev (fun n => if c then A n else B n) r := by
  simpa only [if_neg h] using k
theorem ev_succ {α : Type} {g : Nat → Option α} {r : α} (h : Ev (fun k => g (k + 1)) r) : Ev g r := Ev.step (fun _ => rfl) h
theorem ex_succ {α : Type} {g : Nat → Option α} (h : ∃ r, Ev (fun k => g (k + 1)) r) : ∃ r, Ev g r := by
  obtain ⟨r, h⟩ := h
  exact ⟨r, ev_succ h⟩
theorem ev_one {α : Type} {g : Nat → Option α} {r q : α} (h : Ev g r) (h' : Ev g q) : r = q := by
  obtain ⟨K, hK⟩ := h
  obtain ⟨L, hL⟩ := h'
  have a := hK (max K L) (Nat.le_max_left _ _)
  have b := hL (max K L) (Nat.le_max_right _ _)
  exact Option.some.inj (a.symm.trans b)
theorem ev_bool {α : Type} {A B : Nat → Option α} {r : α} (b : Bool) (h1 : b = true → Ev A r) (h2 : b = false → Ev B r) : Ev (fun n => if b = true then A n else B n) r := by
  cases b with
  | true => exact ev_pos (by trivial) (h1 rfl)
  | false => exact ev_neg (by decide) (h2 rfl)
theorem bool_eq_of_iff {a b : Bool} {p : Prop} (h : a = true ↔ p) (h' : b = true ↔ p) : a = b := by
  rw [Bool.eq_iff_iff]
  exact h.trans h'.symm
theorem w64 {x : Int} (h0 : -9223372036854775808 ≤ x) (h1 : x ≤ 9223372036854775807) : wrap64 x = x := by
  unfold wrap64
  omega
theorem w64_succ {n m : Nat} (h : n < m) (hm : m ≤ 9223372036854775807) : wrap64 ((n : Int) + 1) = ((n + 1 : Nat) : Int) := by
  unfold wrap64
  omega
theorem rd_nat (l : List Int) (n : Nat) : rd l (n : Int) = l.getD n 0 := by
  unfold rd
  rw [Int.toNat_natCast]
theorem take_set_succ {α : Type} (d : α) {x0 x3 : List α} {n : Nat} (h : n < x0.length) (hl : x3.length = x0.length) (ht : x3.take n = x0.take n) : (x3.set n (x0.getD n d)).take (n + 1) = x0.take (n + 1) := by
  apply List.ext_getElem?
  intro i
  simp only [List.getElem?_take, List.getElem?_set]
  by_cases hi : i < n + 1
  · rw [if_pos hi, if_pos hi]
    by_cases he : n = i
    · subst he
      rw [if_pos rfl, if_pos (by omega), List.getD_eq_getElem?_getD, List.getElem?_eq_getElem h]
      rfl
    · rw [if_neg he]
      have := congrArg (fun l => l[i]?) ht
      simpa only [List.getElem?_take, if_pos (show i < n by omega)] using this
  · rw [if_neg hi, if_neg hi]
theorem u8_bounds {l : List Int} (h : ∀ x ∈ l, 0 ≤ x ∧ x ≤ 255) (n : Nat) : 0 ≤ l.getD n 0 ∧ l.getD n 0 ≤ 255 := by
  rw [List.getD_eq_getElem?_getD]
  cases e : l[n]? with
  | none => simp
  | some x =>
    exact h x (List.mem_of_getElem? e)
theorem getD_map {α β : Type} (c : α → β) (l : List α) (n : Nat) (d : α) : (l.map c).getD n (c d) = c (l.getD n d) := by
  simp only [List.getD_eq_getElem?_getD, List.getElem?_map]
  cases l[n]? <;> rfl
/-- It ends, with true just where p holds. -/
def EvB (g : Nat → Option Bool) (p : Prop) : Prop := ∃ b, Ev g b ∧ (b = true ↔ p)
theorem EvB.iff {g : Nat → Option Bool} {p q : Prop} (h : EvB g p) (h' : p ↔ q) : EvB g q := by
  obtain ⟨b, hb, ib⟩ := h
  exact ⟨b, hb, ib.trans h'⟩
theorem EvB.dec {c : Prop} [Decidable c] : EvB (fun _ => some (decide c)) c := ⟨decide c, Ev.now _, decide_eq_true_iff⟩
theorem EvB.ite {c : Prop} [Decidable c] {A : Nat → Option Bool} {p : Prop} (h : EvB A p) : EvB (fun n => if c then A n else some false) (c ∧ p) := by
  obtain ⟨b, hb, ib⟩ := h
  by_cases hc : c
  · exact ⟨b, ev_pos hc hb, ⟨fun h => ⟨hc, ib.1 h⟩, fun h => ib.2 h.2⟩⟩
  · exact ⟨false, ev_neg hc (Ev.now _), ⟨fun h => (Bool.false_ne_true h).elim, fun h => absurd h.1 hc⟩⟩
theorem EvB.ite_not {c : Prop} [Decidable c] {A : Nat → Option Bool} {p : Prop} (h : EvB A p) : EvB (fun n => if c then some false else A n) (¬ c ∧ p) := by
  obtain ⟨b, hb, ib⟩ := h
  by_cases hc : c
  · exact ⟨false, ev_pos hc (Ev.now _), ⟨fun h => (Bool.false_ne_true h).elim, fun h => absurd hc h.1⟩⟩
  · exact ⟨b, ev_neg hc hb, ⟨fun h => ⟨hc, ib.1 h⟩, fun h => ib.2 h.2⟩⟩
theorem EvB.bind {g A : Nat → Option Bool} {p q : Prop} (h : EvB g p) (h' : EvB A q) : EvB (fun n => (g n).bind fun t => if t = true then A n else some false) (p ∧ q) := by
  obtain ⟨b, hb, ib⟩ := h
  obtain ⟨c, hc, ic⟩ := h'
  cases b with
  | true => exact ⟨c, Ev.bind hb (ev_pos rfl hc), ⟨fun h => ⟨ib.1 rfl, ic.1 h⟩, fun h => ic.2 h.2⟩⟩
  | false => exact ⟨false, Ev.bind hb (ev_neg (by decide) (Ev.now _)), ⟨fun h => (Bool.false_ne_true h).elim, fun h => absurd (ib.2 h.1) (by decide)⟩⟩
theorem EvB.last {g : Nat → Option Bool} {p : Prop} (h : EvB g p) : EvB (fun n => (g n).bind fun t => some t) p := by
  obtain ⟨b, hb, ib⟩ := h
  exact ⟨b, Ev.bind hb (Ev.now _), ib⟩
theorem EvB.same {g g' : Nat → Option Bool} {p : Prop} (h : EvB g p) (h' : EvB g' p) : ∃ b, Ev g b ∧ Ev g' b ∧ (b = true ↔ p) := by
  obtain ⟨b, hb, ib⟩ := h
  obtain ⟨c, hc, ic⟩ := h'
  obtain rfl : c = b := bool_eq_of_iff ic ib
  exact ⟨c, hb, hc, ib⟩
theorem EvB.bindE {g A B : Nat → Option Bool} {p q : Prop} (hB : Ev B false) (h : EvB g p) (h' : EvB A q) : EvB (fun n => (g n).bind fun t => if t = true then A n else B n) (p ∧ q) := by
  obtain ⟨b, hb, ib⟩ := h
  obtain ⟨c, hc, ic⟩ := h'
  cases b with
  | true => exact ⟨c, Ev.bind hb (ev_pos rfl hc), ⟨fun h => ⟨ib.1 rfl, ic.1 h⟩, fun h => ic.2 h.2⟩⟩
  | false => exact ⟨false, Ev.bind hb (ev_neg (by decide) hB), ⟨fun h => (Bool.false_ne_true h).elim, fun h => absurd (ib.2 h.1) (by decide)⟩⟩
theorem EvB.iteE {c : Prop} [Decidable c] {A B : Nat → Option Bool} {p : Prop} (hB : Ev B false) (h : EvB A p) : EvB (fun n => if c then A n else B n) (c ∧ p) := by
  obtain ⟨b, hb, ib⟩ := h
  by_cases hc : c
  · exact ⟨b, ev_pos hc hb, ⟨fun h => ⟨hc, ib.1 h⟩, fun h => ib.2 h.2⟩⟩
  · exact ⟨false, ev_neg hc hB, ⟨fun h => (Bool.false_ne_true h).elim, fun h => absurd h.1 hc⟩⟩
theorem EvB.bindN {g : Nat → Option Bool} {J : Nat → Bool → Option Bool} {p q : Prop} (hB : Ev (fun n => J n true) false) (h : EvB g p) (h' : EvB (fun n => J n false) q) : EvB (fun n => (g n).bind fun t => J n (!t)) (p ∧ q) := by
  obtain ⟨b, hb, ib⟩ := h
  obtain ⟨c, hc, ic⟩ := h'
  cases b with
  | true => exact ⟨c, Ev.bind hb hc, ⟨fun h => ⟨ib.1 rfl, ic.1 h⟩, fun h => ic.2 h.2⟩⟩
  | false => exact ⟨false, Ev.bind hb hB, ⟨fun h => (Bool.false_ne_true h).elim, fun h => absurd (ib.2 h.1) (by decide)⟩⟩
theorem EvB.succ {g : Nat → Option Bool} {p : Prop} (h : EvB (fun k => g (k + 1)) p) : EvB g p := by
  obtain ⟨b, hb, ib⟩ := h
  exact ⟨b, ev_succ hb, ib⟩
theorem EvB.true_ {p : Prop} (h : p) : EvB (fun _ => some true) p := ⟨true, Ev.now _, ⟨fun _ => h, fun _ => rfl⟩⟩
theorem EvB.false_ {p : Prop} (h : ¬ p) : EvB (fun _ => some false) p := ⟨false, Ev.now _, ⟨fun e => (Bool.false_ne_true e).elim, fun e => absurd e h⟩⟩
theorem EvB.pos {c : Prop} [Decidable c] {A B : Nat → Option Bool} {p : Prop} (hc : c) (h : EvB A p) : EvB (fun n => if c then A n else B n) p := by
  simpa only [if_pos hc] using h
theorem EvB.neg {c : Prop} [Decidable c] {A B : Nat → Option Bool} {p : Prop} (hc : ¬ c) (h : EvB B p) : EvB (fun n => if c then A n else B n) p := by
  simpa only [if_neg hc] using h

theorem szIntS_eq (l : List Int) (m : Int) (h0 : 0 ≤ m) (h1 : m ≤ 1048576) (hl : l.length ≤ 9223372036854775807) : laws_szIntS.f l m = some (if m - l.length < 0 then -1 else m - l.length) := by
  unfold laws_szIntS.f
  rw [w64 (x := m - (l.length : Int)) (by omega) (by omega)]
  by_cases h : m - (l.length : Int) < 0
  · rw [if_pos h, if_pos h]
  · rw [if_neg h, if_neg h]

theorem toIntS_loop (x0 : List Int) (hx : x0.length ≤ 9223372036854775807) : ∀ (d n : Nat) (x3 : List Int), n + d = x0.length → x3.length = x0.length → x3.take n = x0.take n → Ev (fun k => laws_toIntS.l0 k x0 x3 (n : Int)) x0 := by
  intro d
  induction d with
  | zero =>
    intro n x3 hn hl ht
    refine ev_succ ?_
    simp only [laws_toIntS.l0]
    refine ev_neg (by omega) ?_
    have e : x3 = x0 := by rw [← List.take_of_length_le (l := x3) (i := n) (by omega), ht, List.take_of_length_le (by omega)]
    rw [e]
    exact Ev.now _
  | succ d ih =>
    intro n x3 hn hl ht
    refine ev_succ ?_
    simp only [laws_toIntS.l0]
    refine ev_pos (by omega) (ev_pos (by omega) (ev_pos (by omega) ?_))
    rw [rd_nat, Int.toNat_natCast, w64_succ (m := x0.length) (by omega) hx]
    exact ih (n + 1) _ (by omega) (by simpa using hl) (take_set_succ 0 (by omega) hl ht)
theorem toIntS_ev (l : List Int) (h : l.length ≤ 35184372088832) : Ev (fun k => laws_toIntS.f k l) l := by
  unfold laws_toIntS.f
  refine ev_pos (by omega) (ev_pos (by omega) ?_)
  exact toIntS_loop l (by omega) l.length 0 _ (by omega) (by simp) (by simp)

theorem eqIntS_loop (x0 : List Int) (hx : x0.length ≤ 9223372036854775807) : ∀ (d n : Nat), n + d = x0.length → Ev (fun k => laws_eqIntS.l0 k x0 x0 (n : Int)) true := by
  intro d
  induction d with
  | zero =>
    intro n hn
    refine ev_succ ?_
    simp only [laws_eqIntS.l0]
    exact ev_neg (by omega) (Ev.now _)
  | succ d ih =>
    intro n hn
    refine ev_succ ?_
    simp only [laws_eqIntS.l0]
    refine ev_pos (by omega) (ev_pos (by omega) (ev_pos (by omega) (ev_pos (by trivial) ?_)))
    rw [w64_succ (m := x0.length) (by omega) hx]
    exact ih (n + 1) (by omega)
theorem eqIntS_ev (l : List Int) (h : l.length ≤ 9223372036854775807) : Ev (fun k => laws_eqIntS.f k l l) true := by
  unfold laws_eqIntS.f
  exact ev_pos (by trivial) (eqIntS_loop l h l.length 0 (by omega))

theorem spec_in_eq (a b c : Int) : spec_l1In.f a b c = some (decide (b ≤ a ∧ a ≤ c)) := by
  unfold spec_l1In.f
  split
  · congr 1
    rw [decide_eq_decide]
    omega
  · congr 1
    symm
    rw [decide_eq_false_iff_not]
    omega
theorem spec_in_evB (a b c : Int) : EvB (fun _ => spec_l1In.f a b c) (b ≤ a ∧ a ≤ c) := by
  rw [spec_in_eq]
  exact EvB.dec

theorem impl_in_eq (a b c : Int) : impl_in.f a b c = some (decide (b ≤ a ∧ a ≤ c)) := by
  unfold impl_in.f
  split
  · congr 1
    rw [decide_eq_decide]
    omega
  · congr 1
    symm
    rw [decide_eq_false_iff_not]
    omega
theorem impl_in_evB (a b c : Int) : EvB (fun _ => impl_in.f a b c) (b ≤ a ∧ a ≤ c) := by
  rw [impl_in_eq]
  exact EvB.dec

def AllIn (l : List Int) (lo hi : Int) : Prop := ∀ n, n < l.length → lo ≤ l.getD n 0 ∧ l.getD n 0 ≤ hi
def Rise (l : List Int) : Prop := ∀ n, n + 1 < l.length → l.getD n 0 < l.getD (n + 1) 0

theorem spec_all_loop (l : List Int) (lo hi : Int) (hx : l.length ≤ 9223372036854775807) : ∀ (d n : Nat), n + d = l.length → (∀ m, m < n → lo ≤ l.getD m 0 ∧ l.getD m 0 ≤ hi) → ∃ b, Ev (fun k => spec_l1All.l0 k l lo hi (n : Int)) b ∧ (b = true ↔ AllIn l lo hi) := by
  intro d
  induction d with
  | zero =>
    intro n hn hm
    refine ⟨true, ?_, ⟨fun _ m h => hm m (by omega), fun _ => rfl⟩⟩
    refine ev_succ ?_
    simp only [spec_l1All.l0]
    exact ev_neg (by omega) (Ev.now _)
  | succ d ih =>
    intro n hn hm
    by_cases h : lo ≤ l.getD n 0 ∧ l.getD n 0 ≤ hi
    · obtain ⟨b, hb, hiff⟩ := ih (n + 1) (by omega) (fun m hm' => by
        by_cases e : m = n
        · subst e; exact h
        · exact hm m (by omega))
      refine ⟨b, ?_, hiff⟩
      refine ev_succ ?_
      simp only [spec_l1All.l0, spec_in_eq, Option.bind_some]
      refine ev_pos (by omega) (ev_pos (by omega) (ev_pos (by rw [rd_nat]; simpa using h) ?_))
      rw [w64_succ (m := l.length) (by omega) hx]
      exact hb
    · refine ⟨false, ?_, ⟨fun h' => (Bool.false_ne_true h').elim, fun h' => absurd (h' n (by omega)) h⟩⟩
      refine ev_succ ?_
      simp only [spec_l1All.l0, spec_in_eq, Option.bind_some]
      exact ev_pos (by omega) (ev_pos (by omega) (ev_neg (by rw [rd_nat]; simpa using h) (Ev.now _)))
theorem spec_all_ev (l : List Int) (lo hi : Int) (hx : l.length ≤ 9223372036854775807) : ∃ b, Ev (fun k => spec_l1All.f k l lo hi) b ∧ (b = true ↔ AllIn l lo hi) := by
  unfold spec_l1All.f
  exact spec_all_loop l lo hi hx l.length 0 (by omega) (fun m h => by omega)

theorem impl_all_loop (l : List Int) (lo hi : Int) (hx : l.length ≤ 9223372036854775807) : ∀ (d n : Nat), n + d = l.length → (∀ m, m < n → lo ≤ l.getD m 0 ∧ l.getD m 0 ≤ hi) → ∃ b, Ev (fun k => impl_allIn.l0 k lo hi l (l.length : Int) (n : Int)) b ∧ (b = true ↔ AllIn l lo hi) := by
  intro d
  induction d with
  | zero =>
    intro n hn hm
    refine ⟨true, ?_, ⟨fun _ m h => hm m (by omega), fun _ => rfl⟩⟩
    refine ev_succ ?_
    simp only [impl_allIn.l0]
    exact ev_neg (by omega) (Ev.now _)
  | succ d ih =>
    intro n hn hm
    by_cases h : lo ≤ l.getD n 0 ∧ l.getD n 0 ≤ hi
    · obtain ⟨b, hb, hiff⟩ := ih (n + 1) (by omega) (fun m hm' => by
        by_cases e : m = n
        · subst e; exact h
        · exact hm m (by omega))
      refine ⟨b, ?_, hiff⟩
      refine ev_succ ?_
      simp only [impl_allIn.l0, impl_in_eq, Option.bind_some]
      refine ev_pos (by omega) (ev_pos (by omega) (ev_pos (by omega) (ev_pos (by rw [rd_nat]; simpa using h) ?_)))
      rw [w64_succ (m := l.length) (by omega) hx]
      exact hb
    · refine ⟨false, ?_, ⟨fun h' => (Bool.false_ne_true h').elim, fun h' => absurd (h' n (by omega)) h⟩⟩
      refine ev_succ ?_
      simp only [impl_allIn.l0, impl_in_eq, Option.bind_some]
      exact ev_pos (by omega) (ev_pos (by omega) (ev_pos (by omega) (ev_neg (by rw [rd_nat]; simpa using h) (Ev.now _))))
theorem impl_all_ev (l : List Int) (lo hi : Int) (hx : l.length ≤ 9223372036854775807) : ∃ b, Ev (fun k => impl_allIn.f k l lo hi) b ∧ (b = true ↔ AllIn l lo hi) := by
  unfold impl_allIn.f
  exact impl_all_loop l lo hi hx l.length 0 (by omega) (fun m h => by omega)

theorem spec_rise_loop (l : List Int) (hx : l.length ≤ 9223372036854775807) : ∀ (d n : Nat), 1 ≤ n → l.length ≤ n + d → (∀ m, m + 1 < n → l.getD m 0 < l.getD (m + 1) 0) → ∃ b, Ev (fun k => spec_l1Rise.l0 k l (n : Int)) b ∧ (b = true ↔ Rise l) := by
  intro d
  induction d with
  | zero =>
    intro n h1 hn hm
    refine ⟨true, ?_, ⟨fun _ m h => hm m (by omega), fun _ => rfl⟩⟩
    refine ev_succ ?_
    simp only [spec_l1Rise.l0]
    exact ev_neg (by omega) (Ev.now _)
  | succ d ih =>
    intro n h1 hn hm
    by_cases hlt : n < l.length
    · have e1 : wrap64 ((n : Int) - 1) = ((n - 1 : Nat) : Int) := by rw [w64 (by omega) (by omega)]; omega
      by_cases h : l.getD (n - 1) 0 < l.getD n 0
      · obtain ⟨b, hb, hiff⟩ := ih (n + 1) (by omega) (by omega) (fun m hm' => by
          by_cases e : m + 1 = n
          · have : m = n - 1 := by omega
            subst this
            rw [e]; exact h
          · exact hm m (by omega))
        refine ⟨b, ?_, hiff⟩
        refine ev_succ ?_
        simp only [spec_l1Rise.l0, e1, rd_nat]
        refine ev_pos (by omega) (ev_pos (by omega) (ev_pos (by omega) (ev_pos (by omega) (ev_neg (by omega) ?_))))
        rw [w64_succ (m := l.length) (by omega) hx]
        exact hb
      · refine ⟨false, ?_, ⟨fun h' => (Bool.false_ne_true h').elim, fun h' => absurd (by have := h' (n - 1) (by omega); rwa [show n - 1 + 1 = n by omega] at this) h⟩⟩
        refine ev_succ ?_
        simp only [spec_l1Rise.l0, e1, rd_nat]
        exact ev_pos (by omega) (ev_pos (by omega) (ev_pos (by omega) (ev_pos (by omega) (ev_pos (by omega) (Ev.now _)))))
    · refine ⟨true, ?_, ⟨fun _ m h => hm m (by omega), fun _ => rfl⟩⟩
      refine ev_succ ?_
      simp only [spec_l1Rise.l0]
      exact ev_neg (by omega) (Ev.now _)
theorem spec_rise_ev (l : List Int) (hx : l.length ≤ 9223372036854775807) : ∃ b, Ev (fun k => spec_l1Rise.f k l) b ∧ (b = true ↔ Rise l) := by
  unfold spec_l1Rise.f
  exact spec_rise_loop l hx l.length 1 (by omega) (by omega) (fun m h => by omega)

theorem impl_asc_loop (l : List Int) (lo hi : Int) (hx : l.length ≤ 9223372036854775807) : ∀ (d n : Nat), n + d = l.length → (∀ m, m < n → lo ≤ l.getD m 0 ∧ l.getD m 0 ≤ hi) → (∀ m, m + 1 < n → l.getD m 0 < l.getD (m + 1) 0) → ∃ b, Ev (fun k => impl_ascends.l0 k l lo hi l (l.length : Int) (n : Int)) b ∧ (b = true ↔ AllIn l lo hi ∧ Rise l) := by
  intro d
  induction d with
  | zero =>
    intro n hn hm hr
    refine ⟨true, ?_, ⟨fun _ => ⟨fun m h => hm m (by omega), fun m h => hr m (by omega)⟩, fun _ => rfl⟩⟩
    refine ev_succ ?_
    simp only [impl_ascends.l0]
    exact ev_neg (by omega) (Ev.now _)
  | succ d ih =>
    intro n hn hm hr
    by_cases h : lo ≤ l.getD n 0 ∧ l.getD n 0 ≤ hi
    · have hm1 : ∀ m, m < n + 1 → lo ≤ l.getD m 0 ∧ l.getD m 0 ≤ hi := fun m hm' => by
        by_cases e : m = n
        · subst e; exact h
        · exact hm m (by omega)
      by_cases h0 : n = 0
      · obtain ⟨b, hb, hiff⟩ := ih (n + 1) (by omega) hm1 (fun m hm' => by omega)
        refine ⟨b, ?_, hiff⟩
        refine ev_succ ?_
        simp only [impl_ascends.l0, impl_in_eq, Option.bind_some]
        refine ev_pos (by omega) (ev_pos (by omega) (ev_pos (by omega) (ev_pos (by rw [rd_nat]; simpa using h) (ev_neg (by omega) ?_))))
        rw [w64_succ (m := l.length) (by omega) hx]
        exact hb
      · have e1 : wrap64 ((n : Int) - 1) = ((n - 1 : Nat) : Int) := by rw [w64 (by omega) (by omega)]; omega
        by_cases h2 : l.getD (n - 1) 0 < l.getD n 0
        · obtain ⟨b, hb, hiff⟩ := ih (n + 1) (by omega) hm1 (fun m hm' => by
            by_cases e : m + 1 = n
            · have : m = n - 1 := by omega
              subst this
              rw [e]; exact h2
            · exact hr m (by omega))
          refine ⟨b, ?_, hiff⟩
          refine ev_succ ?_
          simp only [impl_ascends.l0, impl_in_eq, Option.bind_some, e1, rd_nat]
          refine ev_pos (by omega) (ev_pos (by omega) (ev_pos (by omega) (ev_pos (by simpa using h) (ev_pos (by omega) (ev_pos (by omega) (ev_pos (by omega) (ev_neg (by omega) ?_)))))))
          rw [w64_succ (m := l.length) (by omega) hx]
          exact hb
        · refine ⟨false, ?_, ⟨fun h' => (Bool.false_ne_true h').elim, fun h' => absurd (by have := h'.2 (n - 1) (by omega); rwa [show n - 1 + 1 = n by omega] at this) h2⟩⟩
          refine ev_succ ?_
          simp only [impl_ascends.l0, impl_in_eq, Option.bind_some, e1, rd_nat]
          exact ev_pos (by omega) (ev_pos (by omega) (ev_pos (by omega) (ev_pos (by simpa using h) (ev_pos (by omega) (ev_pos (by omega) (ev_pos (by omega) (ev_pos (by omega) (Ev.now _))))))))
    · refine ⟨false, ?_, ⟨fun h' => (Bool.false_ne_true h').elim, fun h' => absurd (h'.1 n (by omega)) h⟩⟩
      refine ev_succ ?_
      simp only [impl_ascends.l0, impl_in_eq, Option.bind_some]
      exact ev_pos (by omega) (ev_pos (by omega) (ev_pos (by omega) (ev_neg (by rw [rd_nat]; simpa using h) (Ev.now _))))
theorem impl_asc_ev (l : List Int) (lo hi : Int) (hx : l.length ≤ 9223372036854775807) : ∃ b, Ev (fun k => impl_ascends.f k l lo hi) b ∧ (b = true ↔ AllIn l lo hi ∧ Rise l) := by
  unfold impl_ascends.f
  exact impl_asc_loop l lo hi hx l.length 0 (by omega) (fun m h => by omega) (fun m h => by omega)

theorem rdL_nat (l : List (List Int)) (n : Nat) : rd_L1 l (n : Int) = l.getD n [] := by
  unfold rd_L1
  rw [Int.toNat_natCast]
theorem szIntSS_loop (G : List (List Int)) (hx : G.length ≤ 9223372036854775807) (hr : ∀ m, (G.getD m []).length ≤ 9223372036854775807) : ∀ (d n : Nat) (x : Int), n + d = G.length → 0 ≤ x → x ≤ 1048576 → ∃ t, Ev (fun k => laws_szIntSS.l0 k G x (n : Int)) t ∧ t ≤ 1048576 ∧ (0 ≤ t → ∀ m, n ≤ m → (G.getD m []).length ≤ 1048576) := by
  intro d
  induction d with
  | zero =>
    intro n x hn h0 h1
    refine ⟨x, ev_succ ?_, h1, fun _ m hm => ?_⟩
    · simp only [laws_szIntSS.l0]
      exact ev_neg (by omega) (Ev.now _)
    · rw [List.getD_eq_getElem?_getD, List.getElem?_eq_none (by omega)]
      simp
  | succ d ih =>
    intro n x hn h0 h1
    have k1 : (n : Int) < (G.length : Int) := by omega
    by_cases h : x - ((G.getD n []).length : Int) < 0
    · refine ⟨-1, ev_succ ?_, by omega, fun h => by omega⟩
      simp only [laws_szIntSS.l0, rdL_nat, szIntS_eq _ x h0 h1 (hr n), if_pos h, Option.bind_some]
      exact ev_pos k1 (ev_pos (Int.natCast_nonneg n) (ev_pos (by decide) (Ev.now _)))
    · obtain ⟨t, e, ht, hs⟩ := ih (n + 1) (x - ((G.getD n []).length : Int)) (by omega) (by omega) (by omega)
      refine ⟨t, ev_succ ?_, ht, fun h' m hm => ?_⟩
      · simp only [laws_szIntSS.l0, rdL_nat, szIntS_eq _ x h0 h1 (hr n), if_neg h, Option.bind_some]
        refine ev_pos k1 (ev_pos (Int.natCast_nonneg n) ?_)
        rw [w64_succ (m := G.length) (n := n) (by omega) hx]
        exact e
      · by_cases e' : m = n
        · subst e'; omega
        · exact hs h' m (by omega)
theorem szIntSS_ev (G : List (List Int)) (hx : G.length ≤ 9223372036854775807) (hr : ∀ m, (G.getD m []).length ≤ 9223372036854775807) (a : Int) (h0 : 0 ≤ a) (h1 : a ≤ 1048576) : ∃ t, Ev (fun k => laws_szIntSS.f k G a) t ∧ t ≤ 1048576 ∧ (0 ≤ t → G.length ≤ 1048576 ∧ ∀ m, (G.getD m []).length ≤ 1048576) := by
  unfold laws_szIntSS.f
  have e := w64 (x := a - (G.length : Int)) (by omega) (by omega)
  simp only [e]
  by_cases h : a - (G.length : Int) < 0
  · exact ⟨-1, ev_pos h (Ev.now _), by omega, fun h => by omega⟩
  · obtain ⟨t, e, ht, hs⟩ := szIntSS_loop G hx hr G.length 0 (a - (G.length : Int)) (by omega) (by omega) (by omega)
    exact ⟨t, ev_neg h e, ht, fun h' => ⟨by omega, fun m => hs h' m (by omega)⟩⟩
def Small (X Y : List Int) (G : List (List Int)) : Prop := X.length ≤ 1048576 ∧ Y.length ≤ 1048576 ∧ G.length ≤ 1048576 ∧ ∀ m, (G.getD m []).length ≤ 1048576
theorem szGrid_ev (X Y : List Int) (G : List (List Int)) (hX : X.length ≤ 9223372036854775807) (hY : Y.length ≤ 9223372036854775807) (hx : G.length ≤ 9223372036854775807) (hr : ∀ m, (G.getD m []).length ≤ 9223372036854775807) : ∃ t, Ev (fun k => laws_szGrid.f k X Y G 1048576) t ∧ (0 ≤ t → Small X Y G) := by
  unfold laws_szGrid.f
  simp only [szIntS_eq X 1048576 (by omega) (by omega) hX, Option.bind_some]
  by_cases h : (1048576 : Int) - X.length < 0
  · simp only [if_pos h]
    exact ⟨-1, ev_pos (by decide) (Ev.now _), fun h => by omega⟩
  simp only [if_neg h]
  simp only [szIntS_eq Y (1048576 - (X.length : Int)) (by omega) (by omega) hY, Option.bind_some]
  by_cases h' : (1048576 : Int) - X.length - Y.length < 0
  · simp only [if_pos h']
    exact ⟨-1, ev_pos (by decide) (Ev.now _), fun h => by omega⟩
  simp only [if_neg h']
  obtain ⟨t, e, ht, hs⟩ := szIntSS_ev G hx hr (1048576 - (X.length : Int) - Y.length) (by omega) (by omega)
  by_cases h2 : t < 0
  · exact ⟨-1, Ev.bind e (ev_pos h2 (Ev.now _)), fun h => by omega⟩
  · exact ⟨t, Ev.bind e (ev_neg h2 (Ev.now _)), fun h => ⟨by omega, by omega, hs h⟩⟩
theorem rows_small {G : List (List Int)} {N : Nat} (h : ∀ y ∈ G, y.length ≤ N) (m : Nat) : (G.getD m []).length ≤ N := by
  rw [List.getD_eq_getElem?_getD]
  cases e : G[m]? with
  | none => simp
  | some v => exact h v (List.mem_of_getElem? e)
theorem toIntSS_loop (x0 : List (List Int)) (hx : x0.length ≤ 1048576) (hr : ∀ m, (x0.getD m []).length ≤ 1048576) : ∀ (d n : Nat) (x3 : List (List Int)), n + d = x0.length → x3.length = x0.length → x3.take n = x0.take n → Ev (fun k => laws_toIntSS.l0 k x0 x3 (n : Int)) x0 := by
  intro d
  induction d with
  | zero =>
    intro n x3 hn hl ht
    refine ev_succ ?_
    simp only [laws_toIntSS.l0]
    refine ev_neg (by omega) ?_
    have e : x3 = x0 := by rw [← List.take_of_length_le (l := x3) (i := n) (by omega), ht, List.take_of_length_le (by omega)]
    rw [e]
    exact Ev.now _
  | succ d ih =>
    intro n x3 hn hl ht
    refine ev_succ ?_
    simp only [laws_toIntSS.l0, rdL_nat, Int.toNat_natCast]
    refine ev_pos (by omega) (ev_pos (by omega) (Ev.bind (toIntS_ev _ (Nat.le_trans (hr n) (by omega))) (ev_pos (by omega) ?_)))
    rw [w64_succ (m := x0.length) (by omega) (by omega)]
    exact ih (n + 1) _ (by omega) (by simpa using hl) (take_set_succ _ (by omega) hl ht)
theorem toIntSS_ev (G : List (List Int)) (hx : G.length ≤ 1048576) (hr : ∀ m, (G.getD m []).length ≤ 1048576) : Ev (fun k => laws_toIntSS.f k G) G := by
  unfold laws_toIntSS.f
  exact ev_pos (by omega) (ev_pos (by omega) (toIntSS_loop G hx hr G.length 0 _ (by omega) (by simp) (by simp)))
theorem toGrid_ev {X Y : List Int} {G : List (List Int)} (h : Small X Y G) : Ev (fun k => laws_toGrid.f k X Y G) (X, Y, G) := by
  obtain ⟨h1, h2, h3, h4⟩ := h
  unfold laws_toGrid.f
  exact Ev.bind (toIntS_ev X (by omega)) (Ev.bind (toIntS_ev Y (by omega)) (Ev.bind (toIntSS_ev G h3 h4) (Ev.now _)))
theorem eqIntSS_loop (x0 : List (List Int)) (hx : x0.length ≤ 1048576) (hr : ∀ m, (x0.getD m []).length ≤ 1048576) : ∀ (d n : Nat), n + d = x0.length → Ev (fun k => laws_eqIntSS.l0 k x0 x0 (n : Int)) true := by
  intro d
  induction d with
  | zero =>
    intro n hn
    refine ev_succ ?_
    simp only [laws_eqIntSS.l0]
    exact ev_neg (by omega) (Ev.now _)
  | succ d ih =>
    intro n hn
    refine ev_succ ?_
    simp only [laws_eqIntSS.l0, rdL_nat]
    refine ev_pos (by omega) (ev_pos (by omega) (ev_pos (by omega) (Ev.bind (eqIntS_ev _ (Nat.le_trans (hr n) (by omega))) (ev_pos (by trivial) ?_))))
    rw [w64_succ (m := x0.length) (by omega) (by omega)]
    exact ih (n + 1) (by omega)
theorem eqIntSS_ev (G : List (List Int)) (hx : G.length ≤ 1048576) (hr : ∀ m, (G.getD m []).length ≤ 1048576) : Ev (fun k => laws_eqIntSS.f k G G) true := by
  unfold laws_eqIntSS.f
  exact ev_pos (by trivial) (eqIntSS_loop G hx hr G.length 0 (by omega))
theorem eqGrid_ev {X Y : List Int} {G : List (List Int)} (h : Small X Y G) : Ev (fun k => laws_eqGrid.f k X Y G X Y G) true := by
  obtain ⟨h1, h2, h3, h4⟩ := h
  unfold laws_eqGrid.f
  exact Ev.bind (eqIntS_ev X (by omega)) (ev_pos (by trivial) (Ev.bind (eqIntS_ev Y (by omega)) (ev_pos (by trivial) (Ev.bind (eqIntSS_ev G h3 h4) (ev_pos (by trivial) (Ev.now _))))))
def RowsP (X : List Int) (G : List (List Int)) : Prop := ∀ m, m < G.length → (G.getD m []).length = X.length ∧ AllIn (G.getD m []) (-1000) 1000
def GridP (X Y : List Int) (G : List (List Int)) : Prop := (2 ≤ X.length ∧ X.length ≤ 20) ∧ (2 ≤ Y.length ∧ Y.length ≤ 20) ∧ Rise X ∧ Rise Y ∧ AllIn X (-1000) 1000 ∧ AllIn Y (-1000) 1000 ∧ G.length = Y.length ∧ RowsP X G
theorem spec_grid_loop {X Y : List Int} {G : List (List Int)} (h : Small X Y G) : ∀ (d n : Nat), n + d = G.length → (∀ m, m < n → (G.getD m []).length = X.length ∧ AllIn (G.getD m []) (-1000) 1000) → EvB (fun k => spec_GridOk.l0 k (n : Int) X Y G) (RowsP X G) := by
  obtain ⟨h1, h2, h3, h4⟩ := h
  intro d
  induction d with
  | zero =>
    intro n hn hm
    refine EvB.succ ?_
    simp only [spec_GridOk.l0]
    exact EvB.neg (by omega) (EvB.true_ (fun m h => hm m (by omega)))
  | succ d ih =>
    intro n hn hm
    refine EvB.succ ?_
    simp only [spec_GridOk.l0, rdL_nat]
    refine EvB.pos (by omega) (EvB.pos (by omega) ?_)
    by_cases hl : ((G.getD n []).length : Int) = (X.length : Int)
    · refine EvB.pos hl ?_
      obtain ⟨b, hb, ib⟩ := spec_all_ev (G.getD n []) (-1000) 1000 (Nat.le_trans (h4 n) (by omega))
      cases b with
      | false => exact ⟨false, Ev.bind hb (ev_neg (by decide) (Ev.now _)), ⟨fun e => (Bool.false_ne_true e).elim, fun e => absurd (ib.2 (e n (by omega)).2) (by decide)⟩⟩
      | true =>
        obtain ⟨b', hb', ib'⟩ := ih (n + 1) (by omega) (fun m hm' => by
          by_cases e : m = n
          · subst e; exact ⟨by omega, ib.1 rfl⟩
          · exact hm m (by omega))
        refine ⟨b', Ev.bind hb (ev_pos rfl ?_), ib'⟩
        rw [w64_succ (m := G.length) (n := n) (by omega) (by omega)]
        exact hb'
    · exact EvB.neg hl (EvB.false_ (fun e => hl (by rw [(e n (by omega)).1])))
theorem spec_grid_ev {X Y : List Int} {G : List (List Int)} (h : Small X Y G) : EvB (fun k => spec_GridOk.f k X Y G) (GridP X Y G) := by
  have bad : Ev (fun k => spec_GridOk.j0 k true X Y G) false := by
    refine ev_succ ?_
    simp only [spec_GridOk.j0]
    exact ev_pos (by trivial) (Ev.now _)
  have last : EvB (fun k => spec_GridOk.j0 k ((G.length : Int) != (Y.length : Int)) X Y G) (G.length = Y.length ∧ RowsP X G) := by
    by_cases e : G.length = Y.length
    · refine EvB.iff (p := RowsP X G) ?_ ⟨fun h => ⟨e, h⟩, fun h => h.2⟩
      have e' : ((G.length : Int) != (Y.length : Int)) = false := by simp [e]
      rw [e']
      refine EvB.succ ?_
      simp only [spec_GridOk.j0]
      exact EvB.neg (by decide) (spec_grid_loop h G.length 0 (by omega) (fun m h => by omega))
    · have e' : ((G.length : Int) != (Y.length : Int)) = true := by simp; omega
      rw [e']
      exact ⟨false, bad, ⟨fun e => (Bool.false_ne_true e).elim, fun e' => absurd e'.1 e⟩⟩
  obtain ⟨h1, h2, h3, h4⟩ := id h
  unfold spec_GridOk.f
  refine (EvB.bindE bad (spec_in_evB _ _ _) (EvB.bindE bad (spec_in_evB _ _ _) (EvB.bindE bad (spec_rise_ev X (by omega)) (EvB.bindE bad (spec_rise_ev Y (by omega)) (EvB.bindE bad (spec_all_ev X _ _ (by omega)) (EvB.bindE bad (spec_all_ev Y _ _ (by omega)) last)))))).iff ?_
  unfold GridP
  constructor
  · rintro ⟨a1, a2, a3, a4, a5, a6, a7, a8⟩; exact ⟨by omega, by omega, a3, a4, a5, a6, a7, a8⟩
  · rintro ⟨a1, a2, a3, a4, a5, a6, a7, a8⟩; exact ⟨by omega, by omega, a3, a4, a5, a6, a7, a8⟩
theorem impl_grid_loop {X Y : List Int} {G : List (List Int)} (h : Small X Y G) : ∀ (d n : Nat), n + d = G.length → (∀ m, m < n → (G.getD m []).length = X.length ∧ AllIn (G.getD m []) (-1000) 1000) → EvB (fun k => impl_GridOk.l0 k G (G.length : Int) (n : Int) X Y G) (GridP X Y G) := by
  obtain ⟨h1, h2, h3, h4⟩ := h
  intro d
  induction d with
  | zero =>
    intro n hn hm
    refine EvB.succ ?_
    simp only [impl_GridOk.l0]
    refine EvB.neg (by omega) ((EvB.bind (impl_in_evB _ _ _) (EvB.bind (impl_in_evB _ _ _) (EvB.ite (EvB.bind (impl_asc_ev X _ _ (by omega)) (EvB.last (impl_asc_ev Y _ _ (by omega))))))).iff ?_)
    have hR : RowsP X G := fun m h => hm m (by omega)
    unfold GridP
    constructor
    · rintro ⟨a1, a2, a3, ⟨a4, a5⟩, a6, a7⟩; exact ⟨by omega, by omega, a5, a7, a4, a6, by omega, hR⟩
    · rintro ⟨a1, a2, a3, a4, a5, a6, a7, a8⟩; exact ⟨by omega, by omega, by omega, ⟨a5, a3⟩, a6, a4⟩
  | succ d ih =>
    intro n hn hm
    refine EvB.succ ?_
    simp only [impl_GridOk.l0, rdL_nat]
    refine EvB.pos (by omega) (EvB.pos (by omega) (EvB.pos (by omega) ?_))
    by_cases hl : ((G.getD n []).length : Int) = (X.length : Int)
    · refine EvB.pos hl ?_
      obtain ⟨b, hb, ib⟩ := impl_all_ev (G.getD n []) (-1000) 1000 (Nat.le_trans (h4 n) (by omega))
      cases b with
      | false => exact ⟨false, Ev.bind hb (ev_neg (by decide) (Ev.now _)), ⟨fun e => (Bool.false_ne_true e).elim, fun e => absurd (ib.2 (e.2.2.2.2.2.2.2 n (by omega)).2) (by decide)⟩⟩
      | true =>
        obtain ⟨b', hb', ib'⟩ := ih (n + 1) (by omega) (fun m hm' => by
          by_cases e : m = n
          · subst e; exact ⟨by omega, ib.1 rfl⟩
          · exact hm m (by omega))
        refine ⟨b', Ev.bind hb (ev_pos rfl ?_), ib'⟩
        rw [w64_succ (m := G.length) (n := n) (by omega) (by omega)]
        exact hb'
    · exact EvB.neg hl (EvB.false_ (fun e => hl (by rw [(e.2.2.2.2.2.2.2 n (by omega)).1])))
theorem impl_grid_ev {X Y : List Int} {G : List (List Int)} (h : Small X Y G) : EvB (fun k => impl_GridOk.f k X Y G) (GridP X Y G) := by
  unfold impl_GridOk.f
  exact impl_grid_loop h G.length 0 (by omega) (fun m h => by omega)

theorem FnExactGridOk : laws_FnExactGridOk.PureR := by
  intro X Y G ⟨hx, _⟩ ⟨hy, _⟩ ⟨hg, hr⟩
  refine Ev.rounds ?_
  unfold laws_FnExactGridOk.f
  obtain ⟨t, ht, hs⟩ := szGrid_ev X Y G hx hy hg (rows_small (fun y h => (hr y h).1))
  by_cases h : t < 0
  · exact Ev.bind ht (ev_pos h (Ev.now _))
  have hS := hs (by omega)
  obtain ⟨b, hb, hc, _⟩ := (spec_grid_ev hS).same (impl_grid_ev hS)
  have he := toGrid_ev hS
  exact Ev.bind ht (ev_neg h (Ev.bind he (Ev.bind hb (Ev.bind he (Ev.bind hc (ev_neg (by simp) (Ev.bind he (Ev.bind (eqGrid_ev hS) (ev_pos (by trivial) (Ev.now _))))))))))

end Go.Proofs.Ytgbkmbdciknedaa.Pure
