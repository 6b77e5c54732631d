/- Proved here: the program's and the reference's Find are the same function of the curve and the height; no condition. -/
import Derived.Test.YtgbkmbdciknedaaPureDefFnExactFind
namespace Go.Proofs.Ytgbkmbdciknedaa.Pure
open Go.RowKit Go.Proofs.Ytgbkmbdciknedaa.PFnExactFind Go.Proofs.YtgbkmbdciknedaaW.PrintWords Go.Proofs.YtgbkmbdciknedaaW.PrintLast Go.Proofs.YtgbkmbdciknedaaW.PrintMore
set_option linter.unusedVariables false
set_option linter.unusedSimpArgs false

theorem ev_pos {c : Prop} [Decidable c] {α : Type} {A B : Nat → Option α} {r : α} (h : c) (k : Ev A r) : Ev (fun n => if c then A n else B n) r := by
  simpa only [if_pos h] using k
theorem ev_neg {c : Prop} [Decidable c] {α : Type} {A B : Nat → Option α} {r : α} (h : ¬ c) (k : Ev B r) : Ev (fun n => if c then A n else B n) r := by
  simpa only [if_neg h] using k
theorem ev_succ {α : Type} {g : Nat → Option α} {r : α} (h : Ev (fun k => g (k + 1)) r) : Ev g r := Ev.step (fun _ => rfl) h
theorem ex_succ {α : Type} {g : Nat → Option α} (h : ∃ r, Ev (fun k => g (k + 1)) r) : ∃ r, Ev g r := by
  obtain ⟨r, h⟩ := h
  exact ⟨r, ev_succ h⟩
theorem ev_one {α : Type} {g : Nat → Option α} {r q : α} (h : Ev g r) (h' : Ev g q) : r = q := by
  obtain ⟨K, hK⟩ := h
  obtain ⟨L, hL⟩ := h'
  have a := hK (max K L) (Nat.le_max_left _ _)
  have b := hL (max K L) (Nat.le_max_right _ _)
  exact Option.some.inj (a.symm.trans b)
theorem ev_bool {α : Type} {A B : Nat → Option α} {r : α} (b : Bool) (h1 : b = true → Ev A r) (h2 : b = false → Ev B r) : Ev (fun n => if b = true then A n else B n) r := by
  cases b with
  | true => exact ev_pos (by trivial) (h1 rfl)
  | false => exact ev_neg (by decide) (h2 rfl)
theorem bool_eq_of_iff {a b : Bool} {p : Prop} (h : a = true ↔ p) (h' : b = true ↔ p) : a = b := by
  rw [Bool.eq_iff_iff]
  exact h.trans h'.symm
theorem w64 {x : Int} (h0 : -9223372036854775808 ≤ x) (h1 : x ≤ 9223372036854775807) : wrap64 x = x := by
  unfold wrap64
  omega
theorem w64_succ {n m : Nat} (h : n < m) (hm : m ≤ 9223372036854775807) : wrap64 ((n : Int) + 1) = ((n + 1 : Nat) : Int) := by
  unfold wrap64
  omega
theorem rd_nat (l : List Int) (n : Nat) : rd l (n : Int) = l.getD n 0 := by
  unfold rd
  rw [Int.toNat_natCast]
theorem take_set_succ {α : Type} (d : α) {x0 x3 : List α} {n : Nat} (h : n < x0.length) (hl : x3.length = x0.length) (ht : x3.take n = x0.take n) : (x3.set n (x0.getD n d)).take (n + 1) = x0.take (n + 1) := by
  apply List.ext_getElem?
  intro i
  simp only [List.getElem?_take, List.getElem?_set]
  by_cases hi : i < n + 1
  · rw [if_pos hi, if_pos hi]
    by_cases he : n = i
    · subst he
      rw [if_pos rfl, if_pos (by omega), List.getD_eq_getElem?_getD, List.getElem?_eq_getElem h]
      rfl
    · rw [if_neg he]
      have := congrArg (fun l => l[i]?) ht
      simpa only [List.getElem?_take, if_pos (show i < n by omega)] using this
  · rw [if_neg hi, if_neg hi]
theorem u8_bounds {l : List Int} (h : ∀ x ∈ l, 0 ≤ x ∧ x ≤ 255) (n : Nat) : 0 ≤ l.getD n 0 ∧ l.getD n 0 ≤ 255 := by
  rw [List.getD_eq_getElem?_getD]
  cases e : l[n]? with
  | none => simp
  | some x =>
    exact h x (List.mem_of_getElem? e)
theorem getD_map {α β : Type} (c : α → β) (l : List α) (n : Nat) (d : α) : (l.map c).getD n (c d) = c (l.getD n d) := by
  simp only [List.getD_eq_getElem?_getD, List.getElem?_map]
  cases l[n]? <;> rfl
/-- It ends, with true just where p holds. -/
def EvB (g : Nat → Option Bool) (p : Prop) : Prop := ∃ b, Ev g b ∧ (b = true ↔ p)
theorem EvB.iff {g : Nat → Option Bool} {p q : Prop} (h : EvB g p) (h' : p ↔ q) : EvB g q := by
  obtain ⟨b, hb, ib⟩ := h
  exact ⟨b, hb, ib.trans h'⟩
theorem EvB.dec {c : Prop} [Decidable c] : EvB (fun _ => some (decide c)) c := ⟨decide c, Ev.now _, decide_eq_true_iff⟩
theorem EvB.ite {c : Prop} [Decidable c] {A : Nat → Option Bool} {p : Prop} (h : EvB A p) : EvB (fun n => if c then A n else some false) (c ∧ p) := by
  obtain ⟨b, hb, ib⟩ := h
  by_cases hc : c
  · exact ⟨b, ev_pos hc hb, ⟨fun h => ⟨hc, ib.1 h⟩, fun h => ib.2 h.2⟩⟩
  · exact ⟨false, ev_neg hc (Ev.now _), ⟨fun h => (Bool.false_ne_true h).elim, fun h => absurd h.1 hc⟩⟩
theorem EvB.ite_not {c : Prop} [Decidable c] {A : Nat → Option Bool} {p : Prop} (h : EvB A p) : EvB (fun n => if c then some false else A n) (¬ c ∧ p) := by
  obtain ⟨b, hb, ib⟩ := h
  by_cases hc : c
  · exact ⟨false, ev_pos hc (Ev.now _), ⟨fun h => (Bool.false_ne_true h).elim, fun h => absurd hc h.1⟩⟩
  · exact ⟨b, ev_neg hc hb, ⟨fun h => ⟨hc, ib.1 h⟩, fun h => ib.2 h.2⟩⟩
theorem EvB.bind {g A : Nat → Option Bool} {p q : Prop} (h : EvB g p) (h' : EvB A q) : EvB (fun n => (g n).bind fun t => if t = true then A n else some false) (p ∧ q) := by
  obtain ⟨b, hb, ib⟩ := h
  obtain ⟨c, hc, ic⟩ := h'
  cases b with
  | true => exact ⟨c, Ev.bind hb (ev_pos rfl hc), ⟨fun h => ⟨ib.1 rfl, ic.1 h⟩, fun h => ic.2 h.2⟩⟩
  | false => exact ⟨false, Ev.bind hb (ev_neg (by decide) (Ev.now _)), ⟨fun h => (Bool.false_ne_true h).elim, fun h => absurd (ib.2 h.1) (by decide)⟩⟩
theorem EvB.last {g : Nat → Option Bool} {p : Prop} (h : EvB g p) : EvB (fun n => (g n).bind fun t => some t) p := by
  obtain ⟨b, hb, ib⟩ := h
  exact ⟨b, Ev.bind hb (Ev.now _), ib⟩
theorem EvB.same {g g' : Nat → Option Bool} {p : Prop} (h : EvB g p) (h' : EvB g' p) : ∃ b, Ev g b ∧ Ev g' b ∧ (b = true ↔ p) := by
  obtain ⟨b, hb, ib⟩ := h
  obtain ⟨c, hc, ic⟩ := h'
  obtain rfl : c = b := bool_eq_of_iff ic ib
  exact ⟨c, hb, hc, ib⟩
theorem EvB.bindE {g A B : Nat → Option Bool} {p q : Prop} (hB : Ev B false) (h : EvB g p) (h' : EvB A q) : EvB (fun n => (g n).bind fun t => if t = true then A n else B n) (p ∧ q) := by
  obtain ⟨b, hb, ib⟩ := h
  obtain ⟨c, hc, ic⟩ := h'
  cases b with
  | true => exact ⟨c, Ev.bind hb (ev_pos rfl hc), ⟨fun h => ⟨ib.1 rfl, ic.1 h⟩, fun h => ic.2 h.2⟩⟩
  | false => exact ⟨false, Ev.bind hb (ev_neg (by decide) hB), ⟨fun h => (Bool.false_ne_true h).elim, fun h => absurd (ib.2 h.1) (by decide)⟩⟩
theorem EvB.iteE {c : Prop} [Decidable c] {A B : Nat → Option Bool} {p : Prop} (hB : Ev B false) (h : EvB A p) : EvB (fun n => if c then A n else B n) (c ∧ p) := by
  obtain ⟨b, hb, ib⟩ := h
  by_cases hc : c
  · exact ⟨b, ev_pos hc hb, ⟨fun h => ⟨hc, ib.1 h⟩, fun h => ib.2 h.2⟩⟩
  · exact ⟨false, ev_neg hc hB, ⟨fun h => (Bool.false_ne_true h).elim, fun h => absurd h.1 hc⟩⟩
theorem EvB.bindN {g : Nat → Option Bool} {J : Nat → Bool → Option Bool} {p q : Prop} (hB : Ev (fun n => J n true) false) (h : EvB g p) (h' : EvB (fun n => J n false) q) : EvB (fun n => (g n).bind fun t => J n (!t)) (p ∧ q) := by
  obtain ⟨b, hb, ib⟩ := h
  obtain ⟨c, hc, ic⟩ := h'
  cases b with
  | true => exact ⟨c, Ev.bind hb hc, ⟨fun h => ⟨ib.1 rfl, ic.1 h⟩, fun h => ic.2 h.2⟩⟩
  | false => exact ⟨false, Ev.bind hb hB, ⟨fun h => (Bool.false_ne_true h).elim, fun h => absurd (ib.2 h.1) (by decide)⟩⟩
theorem EvB.succ {g : Nat → Option Bool} {p : Prop} (h : EvB (fun k => g (k + 1)) p) : EvB g p := by
  obtain ⟨b, hb, ib⟩ := h
  exact ⟨b, ev_succ hb, ib⟩
theorem EvB.true_ {p : Prop} (h : p) : EvB (fun _ => some true) p := ⟨true, Ev.now _, ⟨fun _ => h, fun _ => rfl⟩⟩
theorem EvB.false_ {p : Prop} (h : ¬ p) : EvB (fun _ => some false) p := ⟨false, Ev.now _, ⟨fun e => (Bool.false_ne_true e).elim, fun e => absurd e h⟩⟩
theorem EvB.pos {c : Prop} [Decidable c] {A B : Nat → Option Bool} {p : Prop} (hc : c) (h : EvB A p) : EvB (fun n => if c then A n else B n) p := by
  simpa only [if_pos hc] using h
theorem EvB.neg {c : Prop} [Decidable c] {A B : Nat → Option Bool} {p : Prop} (hc : ¬ c) (h : EvB B p) : EvB (fun n => if c then A n else B n) p := by
  simpa only [if_neg hc] using h

theorem szIntS_eq (l : List Int) (m : Int) (h0 : 0 ≤ m) (h1 : m ≤ 1048576) (hl : l.length ≤ 9223372036854775807) : laws_szIntS.f l m = some (if m - l.length < 0 then -1 else m - l.length) := by
  unfold laws_szIntS.f
  rw [w64 (x := m - (l.length : Int)) (by omega) (by omega)]
  by_cases h : m - (l.length : Int) < 0
  · rw [if_pos h, if_pos h]
  · rw [if_neg h, if_neg h]

theorem toIntS_loop (x0 : List Int) (hx : x0.length ≤ 9223372036854775807) : ∀ (d n : Nat) (x3 : List Int), n + d = x0.length → x3.length = x0.length → x3.take n = x0.take n → Ev (fun k => laws_toIntS.l0 k x0 x3 (n : Int)) x0 := by
  intro d
  induction d with
  | zero =>
    intro n x3 hn hl ht
    refine ev_succ ?_
    simp only [laws_toIntS.l0]
    refine ev_neg (by omega) ?_
    have e : x3 = x0 := by rw [← List.take_of_length_le (l := x3) (i := n) (by omega), ht, List.take_of_length_le (by omega)]
    rw [e]
    exact Ev.now _
  | succ d ih =>
    intro n x3 hn hl ht
    refine ev_succ ?_
    simp only [laws_toIntS.l0]
    refine ev_pos (by omega) (ev_pos (by omega) (ev_pos (by omega) ?_))
    rw [rd_nat, Int.toNat_natCast, w64_succ (m := x0.length) (by omega) hx]
    exact ih (n + 1) _ (by omega) (by simpa using hl) (take_set_succ 0 (by omega) hl ht)
theorem toIntS_ev (l : List Int) (h : l.length ≤ 35184372088832) : Ev (fun k => laws_toIntS.f k l) l := by
  unfold laws_toIntS.f
  refine ev_pos (by omega) (ev_pos (by omega) ?_)
  exact toIntS_loop l (by omega) l.length 0 _ (by omega) (by simp) (by simp)

theorem eqIntS_loop (x0 : List Int) (hx : x0.length ≤ 9223372036854775807) : ∀ (d n : Nat), n + d = x0.length → Ev (fun k => laws_eqIntS.l0 k x0 x0 (n : Int)) true := by
  intro d
  induction d with
  | zero =>
    intro n hn
    refine ev_succ ?_
    simp only [laws_eqIntS.l0]
    exact ev_neg (by omega) (Ev.now _)
  | succ d ih =>
    intro n hn
    refine ev_succ ?_
    simp only [laws_eqIntS.l0]
    refine ev_pos (by omega) (ev_pos (by omega) (ev_pos (by omega) (ev_pos (by trivial) ?_)))
    rw [w64_succ (m := x0.length) (by omega) hx]
    exact ih (n + 1) (by omega)
theorem eqIntS_ev (l : List Int) (h : l.length ≤ 9223372036854775807) : Ev (fun k => laws_eqIntS.f k l l) true := by
  unfold laws_eqIntS.f
  exact ev_pos (by trivial) (eqIntS_loop l h l.length 0 (by omega))

theorem spec_in_eq (a b c : Int) : spec_l1In.f a b c = some (decide (b ≤ a ∧ a ≤ c)) := by
  unfold spec_l1In.f
  split
  · congr 1
    rw [decide_eq_decide]
    omega
  · congr 1
    symm
    rw [decide_eq_false_iff_not]
    omega
theorem spec_in_evB (a b c : Int) : EvB (fun _ => spec_l1In.f a b c) (b ≤ a ∧ a ≤ c) := by
  rw [spec_in_eq]
  exact EvB.dec

theorem impl_in_eq (a b c : Int) : impl_in.f a b c = some (decide (b ≤ a ∧ a ≤ c)) := by
  unfold impl_in.f
  split
  · congr 1
    rw [decide_eq_decide]
    omega
  · congr 1
    symm
    rw [decide_eq_false_iff_not]
    omega
theorem impl_in_evB (a b c : Int) : EvB (fun _ => impl_in.f a b c) (b ≤ a ∧ a ≤ c) := by
  rw [impl_in_eq]
  exact EvB.dec

def AllIn (l : List Int) (lo hi : Int) : Prop := ∀ n, n < l.length → lo ≤ l.getD n 0 ∧ l.getD n 0 ≤ hi
def Rise (l : List Int) : Prop := ∀ n, n + 1 < l.length → l.getD n 0 < l.getD (n + 1) 0

theorem spec_all_loop (l : List Int) (lo hi : Int) (hx : l.length ≤ 9223372036854775807) : ∀ (d n : Nat), n + d = l.length → (∀ m, m < n → lo ≤ l.getD m 0 ∧ l.getD m 0 ≤ hi) → ∃ b, Ev (fun k => spec_l1All.l0 k l lo hi (n : Int)) b ∧ (b = true ↔ AllIn l lo hi) := by
  intro d
  induction d with
  | zero =>
    intro n hn hm
    refine ⟨true, ?_, ⟨fun _ m h => hm m (by omega), fun _ => rfl⟩⟩
    refine ev_succ ?_
    simp only [spec_l1All.l0]
    exact ev_neg (by omega) (Ev.now _)
  | succ d ih =>
    intro n hn hm
    by_cases h : lo ≤ l.getD n 0 ∧ l.getD n 0 ≤ hi
    · obtain ⟨b, hb, hiff⟩ := ih (n + 1) (by omega) (fun m hm' => by
        by_cases e : m = n
        · subst e; exact h
        · exact hm m (by omega))
      refine ⟨b, ?_, hiff⟩
      refine ev_succ ?_
      simp only [spec_l1All.l0, spec_in_eq, Option.bind_some]
      refine ev_pos (by omega) (ev_pos (by omega) (ev_pos (by rw [rd_nat]; simpa using h) ?_))
      rw [w64_succ (m := l.length) (by omega) hx]
      exact hb
    · refine ⟨false, ?_, ⟨fun h' => (Bool.false_ne_true h').elim, fun h' => absurd (h' n (by omega)) h⟩⟩
      refine ev_succ ?_
      simp only [spec_l1All.l0, spec_in_eq, Option.bind_some]
      exact ev_pos (by omega) (ev_pos (by omega) (ev_neg (by rw [rd_nat]; simpa using h) (Ev.now _)))
theorem spec_all_ev (l : List Int) (lo hi : Int) (hx : l.length ≤ 9223372036854775807) : ∃ b, Ev (fun k => spec_l1All.f k l lo hi) b ∧ (b = true ↔ AllIn l lo hi) := by
  unfold spec_l1All.f
  exact spec_all_loop l lo hi hx l.length 0 (by omega) (fun m h => by omega)

theorem impl_all_loop (l : List Int) (lo hi : Int) (hx : l.length ≤ 9223372036854775807) : ∀ (d n : Nat), n + d = l.length → (∀ m, m < n → lo ≤ l.getD m 0 ∧ l.getD m 0 ≤ hi) → ∃ b, Ev (fun k => impl_allIn.l0 k lo hi l (l.length : Int) (n : Int)) b ∧ (b = true ↔ AllIn l lo hi) := by
  intro d
  induction d with
  | zero =>
    intro n hn hm
    refine ⟨true, ?_, ⟨fun _ m h => hm m (by omega), fun _ => rfl⟩⟩
    refine ev_succ ?_
    simp only [impl_allIn.l0]
    exact ev_neg (by omega) (Ev.now _)
  | succ d ih =>
    intro n hn hm
    by_cases h : lo ≤ l.getD n 0 ∧ l.getD n 0 ≤ hi
    · obtain ⟨b, hb, hiff⟩ := ih (n + 1) (by omega) (fun m hm' => by
        by_cases e : m = n
        · subst e; exact h
        · exact hm m (by omega))
      refine ⟨b, ?_, hiff⟩
      refine ev_succ ?_
      simp only [impl_allIn.l0, impl_in_eq, Option.bind_some]
      refine ev_pos (by omega) (ev_pos (by omega) (ev_pos (by omega) (ev_pos (by rw [rd_nat]; simpa using h) ?_)))
      rw [w64_succ (m := l.length) (by omega) hx]
      exact hb
    · refine ⟨false, ?_, ⟨fun h' => (Bool.false_ne_true h').elim, fun h' => absurd (h' n (by omega)) h⟩⟩
      refine ev_succ ?_
      simp only [impl_allIn.l0, impl_in_eq, Option.bind_some]
      exact ev_pos (by omega) (ev_pos (by omega) (ev_pos (by omega) (ev_neg (by rw [rd_nat]; simpa using h) (Ev.now _))))
theorem impl_all_ev (l : List Int) (lo hi : Int) (hx : l.length ≤ 9223372036854775807) : ∃ b, Ev (fun k => impl_allIn.f k l lo hi) b ∧ (b = true ↔ AllIn l lo hi) := by
  unfold impl_allIn.f
  exact impl_all_loop l lo hi hx l.length 0 (by omega) (fun m h => by omega)

theorem spec_rise_loop (l : List Int) (hx : l.length ≤ 9223372036854775807) : ∀ (d n : Nat), 1 ≤ n → l.length ≤ n + d → (∀ m, m + 1 < n → l.getD m 0 < l.getD (m + 1) 0) → ∃ b, Ev (fun k => spec_l1Rise.l0 k l (n : Int)) b ∧ (b = true ↔ Rise l) := by
  intro d
  induction d with
  | zero =>
    intro n h1 hn hm
    refine ⟨true, ?_, ⟨fun _ m h => hm m (by omega), fun _ => rfl⟩⟩
    refine ev_succ ?_
    simp only [spec_l1Rise.l0]
    exact ev_neg (by omega) (Ev.now _)
  | succ d ih =>
    intro n h1 hn hm
    by_cases hlt : n < l.length
    · have e1 : wrap64 ((n : Int) - 1) = ((n - 1 : Nat) : Int) := by rw [w64 (by omega) (by omega)]; omega
      by_cases h : l.getD (n - 1) 0 < l.getD n 0
      · obtain ⟨b, hb, hiff⟩ := ih (n + 1) (by omega) (by omega) (fun m hm' => by
          by_cases e : m + 1 = n
          · have : m = n - 1 := by omega
            subst this
            rw [e]; exact h
          · exact hm m (by omega))
        refine ⟨b, ?_, hiff⟩
        refine ev_succ ?_
        simp only [spec_l1Rise.l0, e1, rd_nat]
        refine ev_pos (by omega) (ev_pos (by omega) (ev_pos (by omega) (ev_pos (by omega) (ev_neg (by omega) ?_))))
        rw [w64_succ (m := l.length) (by omega) hx]
        exact hb
      · refine ⟨false, ?_, ⟨fun h' => (Bool.false_ne_true h').elim, fun h' => absurd (by have := h' (n - 1) (by omega); rwa [show n - 1 + 1 = n by omega] at this) h⟩⟩
        refine ev_succ ?_
        simp only [spec_l1Rise.l0, e1, rd_nat]
        exact ev_pos (by omega) (ev_pos (by omega) (ev_pos (by omega) (ev_pos (by omega) (ev_pos (by omega) (Ev.now _)))))
    · refine ⟨true, ?_, ⟨fun _ m h => hm m (by omega), fun _ => rfl⟩⟩
      refine ev_succ ?_
      simp only [spec_l1Rise.l0]
      exact ev_neg (by omega) (Ev.now _)
theorem spec_rise_ev (l : List Int) (hx : l.length ≤ 9223372036854775807) : ∃ b, Ev (fun k => spec_l1Rise.f k l) b ∧ (b = true ↔ Rise l) := by
  unfold spec_l1Rise.f
  exact spec_rise_loop l hx l.length 1 (by omega) (by omega) (fun m h => by omega)

theorem impl_asc_loop (l : List Int) (lo hi : Int) (hx : l.length ≤ 9223372036854775807) : ∀ (d n : Nat), n + d = l.length → (∀ m, m < n → lo ≤ l.getD m 0 ∧ l.getD m 0 ≤ hi) → (∀ m, m + 1 < n → l.getD m 0 < l.getD (m + 1) 0) → ∃ b, Ev (fun k => impl_ascends.l0 k l lo hi l (l.length : Int) (n : Int)) b ∧ (b = true ↔ AllIn l lo hi ∧ Rise l) := by
  intro d
  induction d with
  | zero =>
    intro n hn hm hr
    refine ⟨true, ?_, ⟨fun _ => ⟨fun m h => hm m (by omega), fun m h => hr m (by omega)⟩, fun _ => rfl⟩⟩
    refine ev_succ ?_
    simp only [impl_ascends.l0]
    exact ev_neg (by omega) (Ev.now _)
  | succ d ih =>
    intro n hn hm hr
    by_cases h : lo ≤ l.getD n 0 ∧ l.getD n 0 ≤ hi
    · have hm1 : ∀ m, m < n + 1 → lo ≤ l.getD m 0 ∧ l.getD m 0 ≤ hi := fun m hm' => by
        by_cases e : m = n
        · subst e; exact h
        · exact hm m (by omega)
      by_cases h0 : n = 0
      · obtain ⟨b, hb, hiff⟩ := ih (n + 1) (by omega) hm1 (fun m hm' => by omega)
        refine ⟨b, ?_, hiff⟩
        refine ev_succ ?_
        simp only [impl_ascends.l0, impl_in_eq, Option.bind_some]
        refine ev_pos (by omega) (ev_pos (by omega) (ev_pos (by omega) (ev_pos (by rw [rd_nat]; simpa using h) (ev_neg (by omega) ?_))))
        rw [w64_succ (m := l.length) (by omega) hx]
        exact hb
      · have e1 : wrap64 ((n : Int) - 1) = ((n - 1 : Nat) : Int) := by rw [w64 (by omega) (by omega)]; omega
        by_cases h2 : l.getD (n - 1) 0 < l.getD n 0
        · obtain ⟨b, hb, hiff⟩ := ih (n + 1) (by omega) hm1 (fun m hm' => by
            by_cases e : m + 1 = n
            · have : m = n - 1 := by omega
              subst this
              rw [e]; exact h2
            · exact hr m (by omega))
          refine ⟨b, ?_, hiff⟩
          refine ev_succ ?_
          simp only [impl_ascends.l0, impl_in_eq, Option.bind_some, e1, rd_nat]
          refine ev_pos (by omega) (ev_pos (by omega) (ev_pos (by omega) (ev_pos (by simpa using h) (ev_pos (by omega) (ev_pos (by omega) (ev_pos (by omega) (ev_neg (by omega) ?_)))))))
          rw [w64_succ (m := l.length) (by omega) hx]
          exact hb
        · refine ⟨false, ?_, ⟨fun h' => (Bool.false_ne_true h').elim, fun h' => absurd (by have := h'.2 (n - 1) (by omega); rwa [show n - 1 + 1 = n by omega] at this) h2⟩⟩
          refine ev_succ ?_
          simp only [impl_ascends.l0, impl_in_eq, Option.bind_some, e1, rd_nat]
          exact ev_pos (by omega) (ev_pos (by omega) (ev_pos (by omega) (ev_pos (by simpa using h) (ev_pos (by omega) (ev_pos (by omega) (ev_pos (by omega) (ev_pos (by omega) (Ev.now _))))))))
    · refine ⟨false, ?_, ⟨fun h' => (Bool.false_ne_true h').elim, fun h' => absurd (h'.1 n (by omega)) h⟩⟩
      refine ev_succ ?_
      simp only [impl_ascends.l0, impl_in_eq, Option.bind_some]
      exact ev_pos (by omega) (ev_pos (by omega) (ev_pos (by omega) (ev_neg (by rw [rd_nat]; simpa using h) (Ev.now _))))
theorem impl_asc_ev (l : List Int) (lo hi : Int) (hx : l.length ≤ 9223372036854775807) : ∃ b, Ev (fun k => impl_ascends.f k l lo hi) b ∧ (b = true ↔ AllIn l lo hi ∧ Rise l) := by
  unfold impl_ascends.f
  exact impl_asc_loop l lo hi hx l.length 0 (by omega) (fun m h => by omega) (fun m h => by omega)

def CurveP (X Y : List Int) : Prop := (2 ≤ X.length ∧ X.length ≤ 20) ∧ X.length = Y.length ∧ Rise X ∧ AllIn X (-100000) 100000 ∧ AllIn Y (-100000) 100000
theorem szCurve_ok (X Y : List Int) (hx : X.length ≤ 9223372036854775807) (hy : Y.length ≤ 9223372036854775807) : ∃ t, laws_szCurve.f X Y 1048576 = some t ∧ (0 ≤ t → X.length + Y.length ≤ 1048576) := by
  unfold laws_szCurve.f
  rw [szIntS_eq X _ (by omega) (by omega) hx]
  simp only [Option.bind_some]
  by_cases h : (1048576 : Int) - X.length < 0
  · rw [if_pos h, if_pos (by omega)]; exact ⟨-1, rfl, by omega⟩
  · rw [if_neg h, if_neg h, szIntS_eq Y _ (by omega) (by omega) hy]
    simp only [Option.bind_some]
    by_cases h' : (1048576 : Int) - X.length - Y.length < 0
    · rw [if_pos h', if_pos (by omega)]; exact ⟨-1, rfl, by omega⟩
    · rw [if_neg h', if_neg h']; exact ⟨_, rfl, by omega⟩
theorem toCurve_ev (X Y : List Int) (h : X.length + Y.length ≤ 1048576) : Ev (fun k => laws_toCurve.f k X Y) (X, Y) := by
  unfold laws_toCurve.f
  exact Ev.bind (toIntS_ev X (by omega)) (Ev.bind (toIntS_ev Y (by omega)) (Ev.now _))
theorem eqCurve_ev (X Y : List Int) (h : X.length + Y.length ≤ 1048576) : Ev (fun k => laws_eqCurve.f k X Y X Y) true := by
  unfold laws_eqCurve.f
  exact Ev.bind (eqIntS_ev X (by omega)) (ev_pos (by trivial) (Ev.bind (eqIntS_ev Y (by omega)) (ev_pos (by trivial) (Ev.now _))))
theorem spec_curve_ev (X Y : List Int) (h : X.length + Y.length ≤ 1048576) : EvB (fun k => spec_CurveOk.f k X Y) (CurveP X Y) := by
  unfold spec_CurveOk.f
  exact (EvB.bind (spec_in_evB _ _ _) (EvB.ite (EvB.bind (spec_rise_ev X (by omega)) (EvB.bind (spec_all_ev X _ _ (by omega)) (EvB.last (spec_all_ev Y _ _ (by omega))))))).iff (by
    unfold CurveP
    constructor
    · rintro ⟨h1, h2, h3, h4, h5⟩; exact ⟨by omega, by omega, h3, h4, h5⟩
    · rintro ⟨h1, h2, h3, h4, h5⟩; exact ⟨by omega, by omega, h3, h4, h5⟩)
theorem impl_curve_ev (X Y : List Int) (h : X.length + Y.length ≤ 1048576) : EvB (fun k => impl_CurveOk.f k X Y) (CurveP X Y) := by
  unfold impl_CurveOk.f
  exact (EvB.bind (impl_in_evB _ _ _) (EvB.ite (EvB.bind (impl_asc_ev X _ _ (by omega)) (EvB.last (impl_all_ev Y _ _ (by omega)))))).iff (by
    unfold CurveP
    constructor
    · rintro ⟨h1, h2, ⟨h3, h4⟩, h5⟩; exact ⟨by omega, by omega, h4, h3, h5⟩
    · rintro ⟨h1, h2, h3, h4, h5⟩; exact ⟨by omega, by omega, ⟨h4, h3⟩, h5⟩)

theorem mul_bd {a b : Int} (A B : Int) (ha : -A ≤ a ∧ a ≤ A) (hb : -B ≤ b ∧ b ≤ B) : -(A * B) ≤ a * b ∧ a * b ≤ A * B := by
  have h : (a * b).natAbs ≤ A.natAbs * B.natAbs := by
    rw [Int.natAbs_mul]
    exact Nat.mul_le_mul (by omega) (by omega)
  have e : A * B = ((A.natAbs * B.natAbs : Nat) : Int) := by
    rw [Int.natCast_mul, Int.natAbs_of_nonneg (by omega), Int.natAbs_of_nonneg (by omega)]
  omega

def dX (X : List Int) (i : Nat) : Int := X.getD (i + 1) 0 - X.getD i 0
def val (X Y : List Int) (i : Nat) (x : Int) : Int := Y.getD i 0 * dX X i + (Y.getD (i + 1) 0 - Y.getD i 0) * (x - X.getD i 0)
theorem last_nat {T : List Int} (h : 1 ≤ T.length) (h' : T.length ≤ 1048576) : wrap64 ((T.length : Int) - 1) = ((T.length - 1 : Nat) : Int) := by
  rw [w64 (by omega) (by omega)]
  omega
theorem curve_at {X Y : List Int} (hP : CurveP X Y) {i : Nat} (h : i + 1 < X.length) : (-100000 ≤ X.getD i 0 ∧ X.getD i 0 ≤ 100000) ∧ (-100000 ≤ X.getD (i + 1) 0 ∧ X.getD (i + 1) 0 ≤ 100000) ∧ (-100000 ≤ Y.getD i 0 ∧ Y.getD i 0 ≤ 100000) ∧ (-100000 ≤ Y.getD (i + 1) 0 ∧ Y.getD (i + 1) 0 ≤ 100000) ∧ (1 ≤ dX X i ∧ dX X i ≤ 200000) := by
  obtain ⟨hl, he, hr, hX, hY⟩ := hP
  have x0 := hX i (by omega)
  have x1 := hX (i + 1) (by omega)
  have y0 := hY i (by omega)
  have y1 := hY (i + 1) (by omega)
  have r := hr i h
  refine ⟨x0, x1, y0, y1, ?_⟩
  unfold dX
  omega
set_option maxHeartbeats 2000000 in
theorem between_eq {X Y : List Int} (hP : CurveP X Y) {i : Nat} (h : i + 1 < X.length) {x : Int} (h0 : X.getD i 0 ≤ x) (h1 : x ≤ X.getD (i + 1) 0) : impl_between.f (X.getD i 0) (X.getD (i + 1) 0) (Y.getD i 0) (Y.getD (i + 1) 0) x = some (val X Y i x, dX X i) := by
  obtain ⟨x0, x1, y0, y1, d⟩ := curve_at hP h
  have e1 : wrap64 (X.getD (i + 1) 0 - X.getD i 0) = dX X i := w64 (by omega) (by omega)
  have e2 : wrap64 (Y.getD (i + 1) 0 - Y.getD i 0) = Y.getD (i + 1) 0 - Y.getD i 0 := w64 (by omega) (by omega)
  have e3 : wrap64 (x - X.getD i 0) = x - X.getD i 0 := w64 (by omega) (by omega)
  have m1 := mul_bd 100000 200000 y0 (b := dX X i) (by omega)
  have m2 := mul_bd 200000 200000 (a := Y.getD (i + 1) 0 - Y.getD i 0) (b := x - X.getD i 0) (by omega) (by omega)
  have e4 : wrap64 (Y.getD i 0 * dX X i) = Y.getD i 0 * dX X i := w64 (by omega) (by omega)
  have e5 : wrap64 ((Y.getD (i + 1) 0 - Y.getD i 0) * (x - X.getD i 0)) = (Y.getD (i + 1) 0 - Y.getD i 0) * (x - X.getD i 0) := w64 (by omega) (by omega)
  unfold impl_between.f
  rw [e1, e2, e3, e4, e5, w64 (by omega) (by omega)]
  rfl
theorem no_hit {a b v d t : Int} (ha : a < v) (hb : b < v) (h0 : 0 ≤ t) (h1 : t ≤ d) (hd : 1 ≤ d) : ¬ (a * d + (b - a) * t ≥ v * d) := by
  have p := Int.mul_le_mul_of_nonneg_right (show 1 ≤ v - a by omega) (show 0 ≤ d - t by omega)
  have q := Int.mul_le_mul_of_nonneg_right (show 1 ≤ v - b by omega) h0
  rw [Int.sub_mul, Int.one_mul, Int.mul_sub, Int.mul_sub] at p
  rw [Int.sub_mul, Int.one_mul] at q
  rw [Int.sub_mul]
  omega
theorem ceil_facts {A e d : Int} (hA : 1 ≤ A) (he : 1 ≤ e) (hd : A ≤ e * d) : 1 ≤ (A + e - 1) / e ∧ (A + e - 1) / e ≤ d ∧ A ≤ e * ((A + e - 1) / e) ∧ (∀ t, t < (A + e - 1) / e → e * t < A) := by
  have p := Int.mul_ediv_add_emod (A + e - 1) e
  have q := Int.emod_nonneg (A + e - 1) (show e ≠ 0 by omega)
  have r := Int.emod_lt_of_pos (A + e - 1) (show 0 < e by omega)
  generalize (A + e - 1) / e = c at *
  have c1 : 1 ≤ c := by
    by_cases h : c ≤ 0
    · have := Int.mul_le_mul_of_nonneg_left h (show 0 ≤ e by omega)
      omega
    · omega
  refine ⟨c1, ?_, by omega, fun t ht => ?_⟩
  · by_cases h : c ≤ d
    · exact h
    · have := Int.mul_le_mul_of_nonneg_left (show d + 1 ≤ c by omega) (show 0 ≤ e by omega)
      rw [Int.mul_add, Int.mul_one] at this
      omega
  · have := Int.mul_le_mul_of_nonneg_left (show t + 1 ≤ c by omega) (show 0 ≤ e by omega)
    rw [Int.mul_add, Int.mul_one] at this
    omega
def ce (X Y : List Int) (i : Nat) (v : Int) : Int := ((v - Y.getD i 0) * dX X i + (Y.getD (i + 1) 0 - Y.getD i 0) - 1) / (Y.getD (i + 1) 0 - Y.getD i 0)
set_option maxHeartbeats 2000000 in
theorem seg_facts {X Y : List Int} (hP : CurveP X Y) {i : Nat} (h : i + 1 < X.length) {v : Int} (h0 : Y.getD i 0 < v) (h1 : v ≤ Y.getD (i + 1) 0) : 1 ≤ ce X Y i v ∧ ce X Y i v ≤ dX X i ∧ (∀ t, val X Y i (X.getD i 0 + t) ≥ v * dX X i ↔ ce X Y i v ≤ t) := by
  obtain ⟨x0, x1, y0, y1, d⟩ := curve_at hP h
  have p := Int.mul_le_mul_of_nonneg_right (show 1 ≤ v - Y.getD i 0 by omega) (show 0 ≤ dX X i by omega)
  have q := Int.mul_le_mul_of_nonneg_right (show v - Y.getD i 0 ≤ Y.getD (i + 1) 0 - Y.getD i 0 by omega) (show 0 ≤ dX X i by omega)
  obtain ⟨c1, c2, c3, c4⟩ := ceil_facts (A := (v - Y.getD i 0) * dX X i) (e := Y.getD (i + 1) 0 - Y.getD i 0) (d := dX X i) (by omega) (by omega) q
  refine ⟨c1, c2, fun t => ?_⟩
  unfold val
  rw [show X.getD i 0 + t - X.getD i 0 = t by omega]
  have e : (v - Y.getD i 0) * dX X i = v * dX X i - Y.getD i 0 * dX X i := Int.sub_mul ..
  constructor
  · intro hh
    by_cases g : ce X Y i v ≤ t
    · exact g
    · have := c4 t (by unfold ce at g; omega)
      omega
  · intro hh
    have := Int.mul_le_mul_of_nonneg_left hh (show 0 ≤ Y.getD (i + 1) 0 - Y.getD i 0 by omega)
    unfold ce at this
    omega
set_option maxHeartbeats 2000000 in
theorem scan_step {X Y : List Int} (hP : CurveP X Y) {i : Nat} (h : i + 1 < X.length) {v x : Int} (hv : -100000 ≤ v ∧ v ≤ 100000) (h0 : X.getD i 0 ≤ x) (h1 : x ≤ X.getD (i + 1) 0) {R : Int × Bool} (hh : if val X Y i x ≥ v * dX X i then R = (x, true) else Ev (fun k => impl_Find.l1 k v (i : Int) (x + 1) ((X.length - 1 : Nat) : Int) (i : Int) X Y) R) : Ev (fun k => impl_Find.l1 k v (i : Int) x ((X.length - 1 : Nat) : Int) (i : Int) X Y) R := by
  have hl := hP.1
  have he := hP.2.1
  have k0 : (0 : Int) ≤ ((i + 1 : Nat) : Int) := Int.natCast_nonneg _
  have k1 : ((i + 1 : Nat) : Int) < (X.length : Int) := Int.ofNat_lt.mpr h
  have k2 : (0 : Int) ≤ (i : Int) := Int.natCast_nonneg _
  have k3 : (i : Int) < (X.length : Int) := by omega
  have k4 : (i : Int) < (Y.length : Int) := by omega
  have k5 : ((i + 1 : Nat) : Int) < (Y.length : Int) := by omega
  have e1 := w64_succ (m := X.length) (n := i) (by omega) (by omega)
  obtain ⟨x0, x1, y0, y1, d⟩ := curve_at hP h
  have e2 : wrap64 (x + 1) = x + 1 := w64 (by omega) (by omega)
  have m := mul_bd 100000 200000 (a := v) (b := dX X i) hv (by omega)
  have e3 : wrap64 (v * dX X i) = v * dX X i := w64 (by omega) (by omega)
  refine ev_succ ?_
  simp only [impl_Find.l1, e1, rd_nat, between_eq hP h h0 h1, Option.bind_some, e2, e3]
  refine ev_pos k0 (ev_pos k1 (ev_pos h1 (ev_pos k2 (ev_pos k3 (ev_pos k4 (ev_pos k5 ?_))))))
  by_cases c : val X Y i x ≥ v * dX X i
  · rw [if_pos c] at hh
    rw [hh]
    exact ev_pos c (Ev.now _)
  · rw [if_neg c] at hh
    exact ev_neg c hh
set_option maxHeartbeats 2000000 in
theorem scan_none {X Y : List Int} (hP : CurveP X Y) {i : Nat} (h : i + 1 < X.length) {v : Int} (hv : -100000 ≤ v ∧ v ≤ 100000) (ha : Y.getD i 0 < v) (hb : Y.getD (i + 1) 0 < v) {R : Int × Bool} (hR : Ev (fun k => impl_Find.l0 k v ((X.length - 1 : Nat) : Int) ((i + 1 : Nat) : Int) X Y) R) : ∀ (D : Nat) (x : Int), X.getD i 0 ≤ x → X.getD (i + 1) 0 + 1 - x = D → Ev (fun k => impl_Find.l1 k v (i : Int) x ((X.length - 1 : Nat) : Int) (i : Int) X Y) R := by
  obtain ⟨x0, x1, y0, y1, d⟩ := curve_at hP h
  have hl := hP.1
  have e1 := w64_succ (m := X.length) (n := i) (by omega) (by omega)
  intro D
  induction D with
  | zero =>
    intro x h0 hD
    refine ev_succ ?_
    simp only [impl_Find.l1, e1, rd_nat]
    exact ev_pos (by omega) (ev_pos (by omega) (ev_neg (by omega) hR))
  | succ D ih =>
    intro x h0 hD
    refine scan_step hP h hv h0 (by omega) ?_
    have hx : x - X.getD i 0 ≤ dX X i := by unfold dX; omega
    rw [if_neg (show ¬ val X Y i x ≥ v * dX X i from no_hit ha hb (by omega) hx d.1)]
    exact ih (x + 1) (by omega) (by omega)
set_option maxHeartbeats 2000000 in
theorem scan_hit {X Y : List Int} (hP : CurveP X Y) {i : Nat} (h : i + 1 < X.length) {v : Int} (hv : -100000 ≤ v ∧ v ≤ 100000) (ha : Y.getD i 0 < v) (hb : v ≤ Y.getD (i + 1) 0) : ∀ (D : Nat) (t : Int), 0 ≤ t → ce X Y i v - t = D → Ev (fun k => impl_Find.l1 k v (i : Int) (X.getD i 0 + t) ((X.length - 1 : Nat) : Int) (i : Int) X Y) (X.getD i 0 + ce X Y i v, true) := by
  obtain ⟨f1, f2, f3⟩ := seg_facts hP h ha hb
  have f2' := f2
  unfold dX at f2'
  intro D
  induction D with
  | zero =>
    intro t h0 hD
    have ht : t = ce X Y i v := by omega
    refine scan_step hP h hv (by omega) (by omega) ?_
    rw [if_pos ((f3 t).2 (by omega)), ht]
  | succ D ih =>
    intro t h0 hD
    refine scan_step hP h hv (by omega) (by omega) ?_
    rw [if_neg (fun g => by have := (f3 t).1 g; omega), Int.add_assoc]
    exact ih (t + 1) (by omega) (by omega)
theorem down_eq {N e : Int} (hN : 0 ≤ N) (hN' : N ≤ 9223372036854775807) (he : 1 ≤ e) : spec_l1Down.f N e = some (N / e) := by
  unfold spec_l1Down.f
  have a : 0 ≤ Int.tmod N e := by
    rw [Int.tmod_eq_emod_of_nonneg hN]
    exact Int.emod_nonneg _ (by omega)
  have b : Int.tdiv N e = N / e := Int.tdiv_eq_ediv_of_nonneg hN
  have c : 0 ≤ N / e := Int.ediv_nonneg hN (by omega)
  have d : N / e ≤ N := Int.ediv_le_self _ hN
  rw [if_neg (by omega), if_neg (by omega), b, w64 (by omega) (by omega)]
set_option maxHeartbeats 2000000 in
theorem spec_hit {X Y : List Int} (hP : CurveP X Y) {i : Nat} (h : i + 1 < X.length) {v : Int} (hv : -100000 ≤ v ∧ v ≤ 100000) (ha : Y.getD i 0 < v) (hb : v ≤ Y.getD (i + 1) 0) : Ev (fun k => spec_Find.l0 k v ((i + 1 : Nat) : Int) X Y) (X.getD i 0 + ce X Y i v, true) := by
  obtain ⟨f1, f2, f3⟩ := seg_facts hP h ha hb
  obtain ⟨x0, x1, y0, y1, d⟩ := curve_at hP h
  have hl := hP.1
  have he := hP.2.1
  have e0 : wrap64 (((i + 1 : Nat) : Int) - 1) = (i : Int) := by
    rw [w64 (by omega) (by omega)]
    omega
  have e1 : wrap64 (X.getD (i + 1) 0 - X.getD i 0) = dX X i := w64 (by omega) (by omega)
  have e2 : wrap64 (Y.getD (i + 1) 0 - Y.getD i 0) = Y.getD (i + 1) 0 - Y.getD i 0 := w64 (by omega) (by omega)
  have e3 : wrap64 (v - Y.getD i 0) = v - Y.getD i 0 := w64 (by omega) (by omega)
  have m1 := mul_bd 200000 200000 (a := v - Y.getD i 0) (b := dX X i) (by omega) (by omega)
  have m0 := Int.mul_nonneg (show 0 ≤ v - Y.getD i 0 by omega) (show 0 ≤ dX X i by omega)
  have e4 : wrap64 ((v - Y.getD i 0) * dX X i) = (v - Y.getD i 0) * dX X i := w64 (by omega) (by omega)
  have e5 : wrap64 ((v - Y.getD i 0) * dX X i + (Y.getD (i + 1) 0 - Y.getD i 0)) = (v - Y.getD i 0) * dX X i + (Y.getD (i + 1) 0 - Y.getD i 0) := w64 (by omega) (by omega)
  have e6 : wrap64 ((v - Y.getD i 0) * dX X i + (Y.getD (i + 1) 0 - Y.getD i 0) - 1) = (v - Y.getD i 0) * dX X i + (Y.getD (i + 1) 0 - Y.getD i 0) - 1 := w64 (by omega) (by omega)
  have e7 := down_eq (N := (v - Y.getD i 0) * dX X i + (Y.getD (i + 1) 0 - Y.getD i 0) - 1) (e := Y.getD (i + 1) 0 - Y.getD i 0) (by omega) (by omega) (by omega)
  have e8 : wrap64 (X.getD i 0 + ce X Y i v) = X.getD i 0 + ce X Y i v := w64 (by omega) (by omega)
  refine ev_succ ?_
  simp only [spec_Find.l0, e0, rd_nat, e1, e2, e3, e4, e5, e6, e7, Option.bind_some]
  refine ev_pos (by omega) (ev_pos (by omega) (ev_pos (by omega) (ev_neg (by omega) (ev_neg (by omega) (ev_pos (by omega) (ev_pos (by omega) (ev_pos (by omega) ?_)))))))
  unfold ce at e8
  rw [e8]
  exact Ev.now _
theorem spec_skip {X Y : List Int} (hP : CurveP X Y) {i : Nat} (h : i < X.length) {v : Int} (ha : Y.getD i 0 < v) {R : Int × Bool} (hR : Ev (fun k => spec_Find.l0 k v ((i + 1 : Nat) : Int) X Y) R) : Ev (fun k => spec_Find.l0 k v (i : Int) X Y) R := by
  have hl := hP.1
  have he := hP.2.1
  refine ev_succ ?_
  simp only [spec_Find.l0, rd_nat]
  rw [w64_succ (m := X.length) (n := i) (by omega) (by omega)]
  exact ev_pos (by omega) (ev_pos (by omega) (ev_pos (by omega) (ev_pos ha hR)))
theorem spec_end {X Y : List Int} (v : Int) : Ev (fun k => spec_Find.l0 k v ((X.length : Nat) : Int) X Y) (0, false) := by
  refine ev_succ ?_
  simp only [spec_Find.l0]
  exact ev_neg (by omega) (Ev.now _)
theorem spec_above {X Y : List Int} (hP : CurveP X Y) {v : Int} (hv : 100000 < v) : ∀ (d i : Nat), i + d = X.length → Ev (fun k => spec_Find.l0 k v (i : Int) X Y) (0, false) := by
  intro d
  induction d with
  | zero =>
    intro i hi
    rw [show i = X.length by omega]
    exact spec_end v
  | succ d ih =>
    intro i hi
    have y0 := hP.2.2.2.2 i (by have := hP.2.1; omega)
    exact spec_skip hP (by omega) (by omega) (ih (i + 1) (by omega))
set_option maxHeartbeats 2000000 in
theorem find_both {X Y : List Int} (hP : CurveP X Y) {v : Int} (hv : -100000 ≤ v ∧ v ≤ 100000) : ∀ (d i : Nat), i + 1 + d = X.length → Y.getD i 0 < v → ∃ r, Ev (fun k => spec_Find.l0 k v ((i + 1 : Nat) : Int) X Y) r ∧ Ev (fun k => impl_Find.l0 k v ((X.length - 1 : Nat) : Int) (i : Int) X Y) r := by
  intro d
  induction d with
  | zero =>
    intro i hi ha
    refine ⟨(0, false), ?_, ev_succ ?_⟩
    · rw [show i + 1 = X.length by omega]
      exact spec_end v
    · simp only [impl_Find.l0]
      exact ev_neg (by omega) (Ev.now _)
  | succ d ih =>
    intro i hi ha
    have h : i + 1 < X.length := by omega
    obtain ⟨x0, x1, y0, y1, dd⟩ := curve_at hP h
    have start : ∀ {R : Int × Bool}, Ev (fun k => impl_Find.l1 k v (i : Int) (X.getD i 0) ((X.length - 1 : Nat) : Int) (i : Int) X Y) R → Ev (fun k => impl_Find.l0 k v ((X.length - 1 : Nat) : Int) (i : Int) X Y) R := by
      intro R hR
      refine ev_succ ?_
      simp only [impl_Find.l0, rd_nat]
      exact ev_pos (by omega) (ev_pos (by omega) (ev_pos (by omega) hR))
    by_cases c : Y.getD (i + 1) 0 < v
    · obtain ⟨r, r1, r2⟩ := ih (i + 1) (by omega) c
      refine ⟨r, spec_skip hP h c r1, start ?_⟩
      exact scan_none hP h hv ha c r2 (X.getD (i + 1) 0 + 1 - X.getD i 0).toNat (X.getD i 0) (Int.le_refl _) (by unfold dX at dd; omega)
    · obtain ⟨f1, f2, f3⟩ := seg_facts hP h ha (show v ≤ Y.getD (i + 1) 0 by omega)
      refine ⟨_, spec_hit hP h hv ha (by omega), start ?_⟩
      have := scan_hit hP h hv ha (by omega) (ce X Y i v).toNat 0 (Int.le_refl _) (by omega)
      rw [Int.add_zero] at this
      exact this
set_option maxHeartbeats 2000000 in
theorem find_ev (X Y : List Int) (h : X.length + Y.length ≤ 1048576) (y : Int) : ∃ r, Ev (fun k => spec_Find.f k X Y y) r ∧ Ev (fun k => impl_Find.f k X Y y) r := by
  have bad : Ev (fun k => impl_Find.j0 k y true X Y) (0, false) := by
    refine ev_succ ?_
    simp only [impl_Find.j0]
    exact ev_pos (by trivial) (Ev.now _)
  obtain ⟨b, hb, hc, ib⟩ := (spec_curve_ev X Y h).same (impl_curve_ev X Y h)
  unfold spec_Find.f impl_Find.f
  cases b with
  | false => exact ⟨_, Ev.bind hb (ev_neg (by decide) (Ev.now _)), Ev.bind hc (ev_neg (by decide) bad)⟩
  | true =>
    have hP := ib.1 rfl
    have hl := hP.1
    have he := hP.2.1
    by_cases c : y > 100000
    · simp only [decide_eq_true c]
      exact ⟨_, Ev.bind hb (ev_pos rfl (spec_above hP c X.length 0 (by omega))), Ev.bind hc (ev_pos rfl bad)⟩
    · simp only [decide_eq_false c]
      have hv : -100000 ≤ mx y (-100000) ∧ mx y (-100000) ≤ 100000 := by
        unfold mx
        split <;> omega
      have go : ∀ {R : Int × Bool}, Ev (fun k => impl_Find.l0 k (mx y (-100000)) ((X.length - 1 : Nat) : Int) 0 X Y) R → Ev (fun k => impl_Find.j0 k y false X Y) R := by
        intro R hR
        refine ev_succ ?_
        simp only [impl_Find.j0]
        rw [last_nat (T := X) (by omega) (by omega)]
        exact ev_neg (by decide) hR
      obtain ⟨x0, x1, y0, y1, d⟩ := curve_at hP (i := 0) (by omega)
      by_cases c' : Y.getD 0 0 < y
      · have ev : mx y (-100000) = y := by
          unfold mx
          split <;> omega
        rw [ev] at go hv
        obtain ⟨r, r1, r2⟩ := find_both hP hv (X.length - 1) 0 (by omega) c'
        exact ⟨r, Ev.bind hb (ev_pos rfl (spec_skip hP (i := 0) (by omega) c' r1)), Ev.bind hc (ev_pos rfl (go r2))⟩
      · have z : rd X 0 = X.getD 0 0 := rd_nat X 0
        have z' : rd Y 0 = Y.getD 0 0 := rd_nat Y 0
        have hv0 : mx y (-100000) ≤ Y.getD 0 0 := by
          unfold mx
          split <;> omega
        have hm := Int.mul_le_mul_of_nonneg_right hv0 (show 0 ≤ dX X 0 by omega)
        refine ⟨(X.getD 0 0, true), Ev.bind hb (ev_pos rfl (ev_succ ?_)), Ev.bind hc (ev_pos rfl (go (ev_succ ?_)))⟩
        · simp only [spec_Find.l0, z, z']
          exact ev_pos (by omega) (ev_pos (by omega) (ev_pos (by omega) (ev_neg c' (ev_pos (by trivial) (ev_pos (by omega) (Ev.now _))))))
        · simp only [impl_Find.l0, z]
          refine ev_pos (by omega) (ev_pos (by omega) (ev_pos (by omega) ?_))
          refine scan_step hP (i := 0) (by omega) hv (Int.le_refl _) (by unfold dX at d; omega) ?_
          have e : val X Y 0 (X.getD 0 0) = Y.getD 0 0 * dX X 0 := by
            unfold val
            rw [Int.sub_self, Int.mul_zero, Int.add_zero]
          rw [e, if_pos hm]

theorem FnExactFind : laws_FnExactFind.PureR := by
  intro X Y y ⟨hx, _⟩ ⟨hy, _⟩ _
  refine Ev.rounds ?_
  unfold laws_FnExactFind.f
  obtain ⟨t, ht, hs⟩ := szCurve_ok X Y hx hy
  rw [ht]
  simp only [Option.bind_some]
  by_cases h0 : t < 0
  · exact ev_pos h0 (Ev.now _)
  have hl := hs (by omega)
  obtain ⟨r, h1, h2⟩ := find_ev X Y hl y
  have ha := toCurve_ev X Y hl
  refine ev_neg h0 (Ev.bind ha (Ev.bind h1 (Ev.bind ha (Ev.bind h2 (ev_pos (by trivial) (ev_succ ?_))))))
  simp only [laws_FnExactFind.j0]
  exact ev_neg (by simp) (Ev.bind ha (Ev.bind (eqCurve_ev X Y hl) (ev_pos (by trivial) (Ev.now _))))

end Go.Proofs.Ytgbkmbdciknedaa.Pure
