/- Proved here: the program's and the reference's AtGrid are the same function of the grid and the place; no condition. -/
import Derived.Test.YtnphbpkpjinddaaPureDefFnExactAtGrid
namespace Go.Proofs.Ytnphbpkpjinddaa.Pure
open Go.RowKit Go.Proofs.Ytnphbpkpjinddaa.QFnExactAtGrid Go.Proofs.YtnphbpkpjinddaaW.PrintWords Go.Proofs.YtnphbpkpjinddaaW.PrintLast Go.Proofs.YtnphbpkpjinddaaW.PrintMore
set_option linter.unusedVariables false
set_option linter.unusedSimpArgs false

theorem ev_pos {c : Prop} [Decidable c] {α : Type} {A B : Nat → Option α} {r : α} (h : c) (k : Ev A r) : Ev (fun n => if c then A n else B n) r := by
  simpa only [if_pos h] using k
theorem ev_neg {c : Prop} [Decidable c] {α : Type} {A B : Nat → Option α} {r : α} (h : ¬ c) (k : Ev B r) : Ev (fun n => if c then A n else B n) r := by
  simpa only [if_neg h] using k
theorem ev_succ {α : Type} {g : Nat → Option α} {r : α} (h : Ev (fun k => g (k + 1)) r) : Ev g r := Ev.step (fun _ => rfl) h
theorem ex_succ {α : Type} {g : Nat → Option α} (h : ∃ r, Ev (fun k => g (k + 1)) r) : ∃ r, Ev g r := by
  obtain ⟨r, h⟩ := h
  exact ⟨r, ev_succ h⟩
theorem ev_one {α : Type} {g : Nat → Option α} {r q : α} (h : Ev g r) (h' : Ev g q) : r = q := by
  obtain ⟨K, hK⟩ := h
  obtain ⟨L, hL⟩ := h'
  have a := hK (max K L) (Nat.le_max_left _ _)
  have b := hL (max K L) (Nat.le_max_right _ _)
  exact Option.some.inj (a.symm.trans b)
theorem ev_bool {α : Type} {A B : Nat → Option α} {r : α} (b : Bool) (h1 : b = true → Ev A r) (h2 : b = false → Ev B r) : Ev (fun n => if b = true then A n else B n) r := by
  cases b with
  | true => exact ev_pos (by trivial) (h1 rfl)
  | false => exact ev_neg (by decide) (h2 rfl)
theorem bool_eq_of_iff {a b : Bool} {p : Prop} (h : a = true ↔ p) (h' : b = true ↔ p) : a = b := by
  rw [Bool.eq_iff_iff]
  exact h.trans h'.symm
theorem w64 {x : Int} (h0 : -9223372036854775808 ≤ x) (h1 : x ≤ 9223372036854775807) : wrap64 x = x := by
  unfold wrap64
  omega
theorem w64_succ {n m : Nat} (h : n < m) (hm : m ≤ 9223372036854775807) : wrap64 ((n : Int) + 1) = ((n + 1 : Nat) : Int) := by
  unfold wrap64
  omega
theorem rd_nat (l : List Int) (n : Nat) : rd l (n : Int) = l.getD n 0 := by
  unfold rd
  rw [Int.toNat_natCast]
theorem take_set_succ {α : Type} (d : α) {x0 x3 : List α} {n : Nat} (h : n < x0.length) (hl : x3.length = x0.length) (ht : x3.take n = x0.take n) : (x3.set n (x0.getD n d)).take (n + 1) = x0.take (n + 1) := by
  apply List.ext_getElem?
  intro i
  simp only [List.getElem?_take, List.getElem?_set]
  by_cases hi : i < n + 1
  · rw [if_pos hi, if_pos hi]
    by_cases he : n = i
    · subst he
      rw [if_pos rfl, if_pos (by omega), List.getD_eq_getElem?_getD, List.getElem?_eq_getElem h]
      rfl
    · rw [if_neg he]
      have := congrArg (fun l => l[i]?) ht
      simpa only [List.getElem?_take, if_pos (show i < n by omega)] using this
  · rw [if_neg hi, if_neg hi]
theorem u8_bounds {l : List Int} (h : ∀ x ∈ l, 0 ≤ x ∧ x ≤ 255) (n : Nat) : 0 ≤ l.getD n 0 ∧ l.getD n 0 ≤ 255 := by
  rw [List.getD_eq_getElem?_getD]
  cases e : l[n]? with
  | none => simp
  | some x =>
    exact h x (List.mem_of_getElem? e)
theorem getD_map {α β : Type} (c : α → β) (l : List α) (n : Nat) (d : α) : (l.map c).getD n (c d) = c (l.getD n d) := by
  simp only [List.getD_eq_getElem?_getD, List.getElem?_map]
  cases l[n]? <;> rfl
/-- It ends, with true just where p holds. -/
def EvB (g : Nat → Option Bool) (p : Prop) : Prop := ∃ b, Ev g b ∧ (b = true ↔ p)
theorem EvB.iff {g : Nat → Option Bool} {p q : Prop} (h : EvB g p) (h' : p ↔ q) : EvB g q := by
  obtain ⟨b, hb, ib⟩ := h
  exact ⟨b, hb, ib.trans h'⟩
theorem EvB.dec {c : Prop} [Decidable c] : EvB (fun _ => some (decide c)) c := ⟨decide c, Ev.now _, decide_eq_true_iff⟩
theorem EvB.ite {c : Prop} [Decidable c] {A : Nat → Option Bool} {p : Prop} (h : EvB A p) : EvB (fun n => if c then A n else some false) (c ∧ p) := by
  obtain ⟨b, hb, ib⟩ := h
  by_cases hc : c
  · exact ⟨b, ev_pos hc hb, ⟨fun h => ⟨hc, ib.1 h⟩, fun h => ib.2 h.2⟩⟩
  · exact ⟨false, ev_neg hc (Ev.now _), ⟨fun h => (Bool.false_ne_true h).elim, fun h => absurd h.1 hc⟩⟩
theorem EvB.ite_not {c : Prop} [Decidable c] {A : Nat → Option Bool} {p : Prop} (h : EvB A p) : EvB (fun n => if c then some false else A n) (¬ c ∧ p) := by
  obtain ⟨b, hb, ib⟩ := h
  by_cases hc : c
  · exact ⟨false, ev_pos hc (Ev.now _), ⟨fun h => (Bool.false_ne_true h).elim, fun h => absurd hc h.1⟩⟩
  · exact ⟨b, ev_neg hc hb, ⟨fun h => ⟨hc, ib.1 h⟩, fun h => ib.2 h.2⟩⟩
theorem EvB.bind {g A : Nat → Option Bool} {p q : Prop} (h : EvB g p) (h' : EvB A q) : EvB (fun n => (g n).bind fun t => if t = true then A n else some false) (p ∧ q) := by
  obtain ⟨b, hb, ib⟩ := h
  obtain ⟨c, hc, ic⟩ := h'
  cases b with
  | true => exact ⟨c, Ev.bind hb (ev_pos rfl hc), ⟨fun h => ⟨ib.1 rfl, ic.1 h⟩, fun h => ic.2 h.2⟩⟩
  | false => exact ⟨false, Ev.bind hb (ev_neg (by decide) (Ev.now _)), ⟨fun h => (Bool.false_ne_true h).elim, fun h => absurd (ib.2 h.1) (by decide)⟩⟩
theorem EvB.last {g : Nat → Option Bool} {p : Prop} (h : EvB g p) : EvB (fun n => (g n).bind fun t => some t) p := by
  obtain ⟨b, hb, ib⟩ := h
  exact ⟨b, Ev.bind hb (Ev.now _), ib⟩
theorem EvB.same {g g' : Nat → Option Bool} {p : Prop} (h : EvB g p) (h' : EvB g' p) : ∃ b, Ev g b ∧ Ev g' b ∧ (b = true ↔ p) := by
  obtain ⟨b, hb, ib⟩ := h
  obtain ⟨c, hc, ic⟩ := h'
  obtain rfl : c = b := bool_eq_of_iff ic ib
  exact ⟨c, hb, hc, ib⟩
theorem EvB.bindE {g A B : Nat → Option Bool} {p q : Prop} (hB : Ev B false) (h : EvB g p) (h' : EvB A q) : EvB (fun n => (g n).bind fun t => if t = true then A n else B n) (p ∧ q) := by
  obtain ⟨b, hb, ib⟩ := h
  obtain ⟨c, hc, ic⟩ := h'
  cases b with
  | true => exact ⟨c, Ev.bind hb (ev_pos rfl hc), ⟨fun h => ⟨ib.1 rfl, ic.1 h⟩, fun h => ic.2 h.2⟩⟩
  | false => exact ⟨false, Ev.bind hb (ev_neg (by decide) hB), ⟨fun h => (Bool.false_ne_true h).elim, fun h => absurd (ib.2 h.1) (by decide)⟩⟩
theorem EvB.iteE {c : Prop} [Decidable c] {A B : Nat → Option Bool} {p : Prop} (hB : Ev B false) (h : EvB A p) : EvB (fun n => if c then A n else B n) (c ∧ p) := by
  obtain ⟨b, hb, ib⟩ := h
  by_cases hc : c
  · exact ⟨b, ev_pos hc hb, ⟨fun h => ⟨hc, ib.1 h⟩, fun h => ib.2 h.2⟩⟩
  · exact ⟨false, ev_neg hc hB, ⟨fun h => (Bool.false_ne_true h).elim, fun h => absurd h.1 hc⟩⟩
theorem EvB.bindN {g : Nat → Option Bool} {J : Nat → Bool → Option Bool} {p q : Prop} (hB : Ev (fun n => J n true) false) (h : EvB g p) (h' : EvB (fun n => J n false) q) : EvB (fun n => (g n).bind fun t => J n (!t)) (p ∧ q) := by
  obtain ⟨b, hb, ib⟩ := h
  obtain ⟨c, hc, ic⟩ := h'
  cases b with
  | true => exact ⟨c, Ev.bind hb hc, ⟨fun h => ⟨ib.1 rfl, ic.1 h⟩, fun h => ic.2 h.2⟩⟩
  | false => exact ⟨false, Ev.bind hb hB, ⟨fun h => (Bool.false_ne_true h).elim, fun h => absurd (ib.2 h.1) (by decide)⟩⟩
theorem EvB.succ {g : Nat → Option Bool} {p : Prop} (h : EvB (fun k => g (k + 1)) p) : EvB g p := by
  obtain ⟨b, hb, ib⟩ := h
  exact ⟨b, ev_succ hb, ib⟩
theorem EvB.true_ {p : Prop} (h : p) : EvB (fun _ => some true) p := ⟨true, Ev.now _, ⟨fun _ => h, fun _ => rfl⟩⟩
theorem EvB.false_ {p : Prop} (h : ¬ p) : EvB (fun _ => some false) p := ⟨false, Ev.now _, ⟨fun e => (Bool.false_ne_true e).elim, fun e => absurd e h⟩⟩
theorem EvB.pos {c : Prop} [Decidable c] {A B : Nat → Option Bool} {p : Prop} (hc : c) (h : EvB A p) : EvB (fun n => if c then A n else B n) p := by
  simpa only [if_pos hc] using h
theorem EvB.neg {c : Prop} [Decidable c] {A B : Nat → Option Bool} {p : Prop} (hc : ¬ c) (h : EvB B p) : EvB (fun n => if c then A n else B n) p := by
  simpa only [if_neg hc] using h

theorem szIntS_eq (l : List Int) (m : Int) (h0 : 0 ≤ m) (h1 : m ≤ 1048576) (hl : l.length ≤ 9223372036854775807) : laws_szIntS.f l m = some (if m - l.length < 0 then -1 else m - l.length) := by
  unfold laws_szIntS.f
  rw [w64 (x := m - (l.length : Int)) (by omega) (by omega)]
  by_cases h : m - (l.length : Int) < 0
  · rw [if_pos h, if_pos h]
  · rw [if_neg h, if_neg h]

theorem toIntS_loop (x0 : List Int) (hx : x0.length ≤ 9223372036854775807) : ∀ (d n : Nat) (x3 : List Int), n + d = x0.length → x3.length = x0.length → x3.take n = x0.take n → Ev (fun k => laws_toIntS.l0 k x0 x3 (n : Int)) x0 := by
  intro d
  induction d with
  | zero =>
    intro n x3 hn hl ht
    refine ev_succ ?_
    simp only [laws_toIntS.l0]
    refine ev_neg (by omega) ?_
    have e : x3 = x0 := by rw [← List.take_of_length_le (l := x3) (i := n) (by omega), ht, List.take_of_length_le (by omega)]
    rw [e]
    exact Ev.now _
  | succ d ih =>
    intro n x3 hn hl ht
    refine ev_succ ?_
    simp only [laws_toIntS.l0]
    refine ev_pos (by omega) (ev_pos (by omega) (ev_pos (by omega) ?_))
    rw [rd_nat, Int.toNat_natCast, w64_succ (m := x0.length) (by omega) hx]
    exact ih (n + 1) _ (by omega) (by simpa using hl) (take_set_succ 0 (by omega) hl ht)
theorem toIntS_ev (l : List Int) (h : l.length ≤ 35184372088832) : Ev (fun k => laws_toIntS.f k l) l := by
  unfold laws_toIntS.f
  refine ev_pos (by omega) (ev_pos (by omega) ?_)
  exact toIntS_loop l (by omega) l.length 0 _ (by omega) (by simp) (by simp)

theorem eqIntS_loop (x0 : List Int) (hx : x0.length ≤ 9223372036854775807) : ∀ (d n : Nat), n + d = x0.length → Ev (fun k => laws_eqIntS.l0 k x0 x0 (n : Int)) true := by
  intro d
  induction d with
  | zero =>
    intro n hn
    refine ev_succ ?_
    simp only [laws_eqIntS.l0]
    exact ev_neg (by omega) (Ev.now _)
  | succ d ih =>
    intro n hn
    refine ev_succ ?_
    simp only [laws_eqIntS.l0]
    refine ev_pos (by omega) (ev_pos (by omega) (ev_pos (by omega) (ev_pos (by trivial) ?_)))
    rw [w64_succ (m := x0.length) (by omega) hx]
    exact ih (n + 1) (by omega)
theorem eqIntS_ev (l : List Int) (h : l.length ≤ 9223372036854775807) : Ev (fun k => laws_eqIntS.f k l l) true := by
  unfold laws_eqIntS.f
  exact ev_pos (by trivial) (eqIntS_loop l h l.length 0 (by omega))

theorem spec_in_eq (a b c : Int) : spec_l1In.f a b c = some (decide (b ≤ a ∧ a ≤ c)) := by
  unfold spec_l1In.f
  split
  · congr 1
    rw [decide_eq_decide]
    omega
  · congr 1
    symm
    rw [decide_eq_false_iff_not]
    omega
theorem spec_in_evB (a b c : Int) : EvB (fun _ => spec_l1In.f a b c) (b ≤ a ∧ a ≤ c) := by
  rw [spec_in_eq]
  exact EvB.dec

theorem impl_in_eq (a b c : Int) : impl_in.f a b c = some (decide (b ≤ a ∧ a ≤ c)) := by
  unfold impl_in.f
  split
  · congr 1
    rw [decide_eq_decide]
    omega
  · congr 1
    symm
    rw [decide_eq_false_iff_not]
    omega
theorem impl_in_evB (a b c : Int) : EvB (fun _ => impl_in.f a b c) (b ≤ a ∧ a ≤ c) := by
  rw [impl_in_eq]
  exact EvB.dec

def AllIn (l : List Int) (lo hi : Int) : Prop := ∀ n, n < l.length → lo ≤ l.getD n 0 ∧ l.getD n 0 ≤ hi
def Rise (l : List Int) : Prop := ∀ n, n + 1 < l.length → l.getD n 0 < l.getD (n + 1) 0

theorem spec_all_loop (l : List Int) (lo hi : Int) (hx : l.length ≤ 9223372036854775807) : ∀ (d n : Nat), n + d = l.length → (∀ m, m < n → lo ≤ l.getD m 0 ∧ l.getD m 0 ≤ hi) → ∃ b, Ev (fun k => spec_l1All.l0 k l lo hi (n : Int)) b ∧ (b = true ↔ AllIn l lo hi) := by
  intro d
  induction d with
  | zero =>
    intro n hn hm
    refine ⟨true, ?_, ⟨fun _ m h => hm m (by omega), fun _ => rfl⟩⟩
    refine ev_succ ?_
    simp only [spec_l1All.l0]
    exact ev_neg (by omega) (Ev.now _)
  | succ d ih =>
    intro n hn hm
    by_cases h : lo ≤ l.getD n 0 ∧ l.getD n 0 ≤ hi
    · obtain ⟨b, hb, hiff⟩ := ih (n + 1) (by omega) (fun m hm' => by
        by_cases e : m = n
        · subst e; exact h
        · exact hm m (by omega))
      refine ⟨b, ?_, hiff⟩
      refine ev_succ ?_
      simp only [spec_l1All.l0, spec_in_eq, Option.bind_some]
      refine ev_pos (by omega) (ev_pos (by omega) (ev_pos (by rw [rd_nat]; simpa using h) ?_))
      rw [w64_succ (m := l.length) (by omega) hx]
      exact hb
    · refine ⟨false, ?_, ⟨fun h' => (Bool.false_ne_true h').elim, fun h' => absurd (h' n (by omega)) h⟩⟩
      refine ev_succ ?_
      simp only [spec_l1All.l0, spec_in_eq, Option.bind_some]
      exact ev_pos (by omega) (ev_pos (by omega) (ev_neg (by rw [rd_nat]; simpa using h) (Ev.now _)))
theorem spec_all_ev (l : List Int) (lo hi : Int) (hx : l.length ≤ 9223372036854775807) : ∃ b, Ev (fun k => spec_l1All.f k l lo hi) b ∧ (b = true ↔ AllIn l lo hi) := by
  unfold spec_l1All.f
  exact spec_all_loop l lo hi hx l.length 0 (by omega) (fun m h => by omega)

theorem impl_all_loop (l : List Int) (lo hi : Int) (hx : l.length ≤ 9223372036854775807) : ∀ (d n : Nat), n + d = l.length → (∀ m, m < n → lo ≤ l.getD m 0 ∧ l.getD m 0 ≤ hi) → ∃ b, Ev (fun k => impl_allIn.l0 k lo hi l (l.length : Int) (n : Int)) b ∧ (b = true ↔ AllIn l lo hi) := by
  intro d
  induction d with
  | zero =>
    intro n hn hm
    refine ⟨true, ?_, ⟨fun _ m h => hm m (by omega), fun _ => rfl⟩⟩
    refine ev_succ ?_
    simp only [impl_allIn.l0]
    exact ev_neg (by omega) (Ev.now _)
  | succ d ih =>
    intro n hn hm
    by_cases h : lo ≤ l.getD n 0 ∧ l.getD n 0 ≤ hi
    · obtain ⟨b, hb, hiff⟩ := ih (n + 1) (by omega) (fun m hm' => by
        by_cases e : m = n
        · subst e; exact h
        · exact hm m (by omega))
      refine ⟨b, ?_, hiff⟩
      refine ev_succ ?_
      simp only [impl_allIn.l0, impl_in_eq, Option.bind_some]
      refine ev_pos (by omega) (ev_pos (by omega) (ev_pos (by omega) (ev_pos (by rw [rd_nat]; simpa using h) ?_)))
      rw [w64_succ (m := l.length) (by omega) hx]
      exact hb
    · refine ⟨false, ?_, ⟨fun h' => (Bool.false_ne_true h').elim, fun h' => absurd (h' n (by omega)) h⟩⟩
      refine ev_succ ?_
      simp only [impl_allIn.l0, impl_in_eq, Option.bind_some]
      exact ev_pos (by omega) (ev_pos (by omega) (ev_pos (by omega) (ev_neg (by rw [rd_nat]; simpa using h) (Ev.now _))))
theorem impl_all_ev (l : List Int) (lo hi : Int) (hx : l.length ≤ 9223372036854775807) : ∃ b, Ev (fun k => impl_allIn.f k l lo hi) b ∧ (b = true ↔ AllIn l lo hi) := by
  unfold impl_allIn.f
  exact impl_all_loop l lo hi hx l.length 0 (by omega) (fun m h => by omega)

theorem spec_rise_loop (l : List Int) (hx : l.length ≤ 9223372036854775807) : ∀ (d n : Nat), 1 ≤ n → l.length ≤ n + d → (∀ m, m + 1 < n → l.getD m 0 < l.getD (m + 1) 0) → ∃ b, Ev (fun k => spec_l1Rise.l0 k l (n : Int)) b ∧ (b = true ↔ Rise l) := by
  intro d
  induction d with
  | zero =>
    intro n h1 hn hm
    refine ⟨true, ?_, ⟨fun _ m h => hm m (by omega), fun _ => rfl⟩⟩
    refine ev_succ ?_
    simp only [spec_l1Rise.l0]
    exact ev_neg (by omega) (Ev.now _)
  | succ d ih =>
    intro n h1 hn hm
    by_cases hlt : n < l.length
    · have e1 : wrap64 ((n : Int) - 1) = ((n - 1 : Nat) : Int) := by rw [w64 (by omega) (by omega)]; omega
      by_cases h : l.getD (n - 1) 0 < l.getD n 0
      · obtain ⟨b, hb, hiff⟩ := ih (n + 1) (by omega) (by omega) (fun m hm' => by
          by_cases e : m + 1 = n
          · have : m = n - 1 := by omega
            subst this
            rw [e]; exact h
          · exact hm m (by omega))
        refine ⟨b, ?_, hiff⟩
        refine ev_succ ?_
        simp only [spec_l1Rise.l0, e1, rd_nat]
        refine ev_pos (by omega) (ev_pos (by omega) (ev_pos (by omega) (ev_pos (by omega) (ev_neg (by omega) ?_))))
        rw [w64_succ (m := l.length) (by omega) hx]
        exact hb
      · refine ⟨false, ?_, ⟨fun h' => (Bool.false_ne_true h').elim, fun h' => absurd (by have := h' (n - 1) (by omega); rwa [show n - 1 + 1 = n by omega] at this) h⟩⟩
        refine ev_succ ?_
        simp only [spec_l1Rise.l0, e1, rd_nat]
        exact ev_pos (by omega) (ev_pos (by omega) (ev_pos (by omega) (ev_pos (by omega) (ev_pos (by omega) (Ev.now _)))))
    · refine ⟨true, ?_, ⟨fun _ m h => hm m (by omega), fun _ => rfl⟩⟩
      refine ev_succ ?_
      simp only [spec_l1Rise.l0]
      exact ev_neg (by omega) (Ev.now _)
theorem spec_rise_ev (l : List Int) (hx : l.length ≤ 9223372036854775807) : ∃ b, Ev (fun k => spec_l1Rise.f k l) b ∧ (b = true ↔ Rise l) := by
  unfold spec_l1Rise.f
  exact spec_rise_loop l hx l.length 1 (by omega) (by omega) (fun m h => by omega)

theorem impl_asc_loop (l : List Int) (lo hi : Int) (hx : l.length ≤ 9223372036854775807) : ∀ (d n : Nat), n + d = l.length → (∀ m, m < n → lo ≤ l.getD m 0 ∧ l.getD m 0 ≤ hi) → (∀ m, m + 1 < n → l.getD m 0 < l.getD (m + 1) 0) → ∃ b, Ev (fun k => impl_ascends.l0 k l lo hi l (l.length : Int) (n : Int)) b ∧ (b = true ↔ AllIn l lo hi ∧ Rise l) := by
  intro d
  induction d with
  | zero =>
    intro n hn hm hr
    refine ⟨true, ?_, ⟨fun _ => ⟨fun m h => hm m (by omega), fun m h => hr m (by omega)⟩, fun _ => rfl⟩⟩
    refine ev_succ ?_
    simp only [impl_ascends.l0]
    exact ev_neg (by omega) (Ev.now _)
  | succ d ih =>
    intro n hn hm hr
    by_cases h : lo ≤ l.getD n 0 ∧ l.getD n 0 ≤ hi
    · have hm1 : ∀ m, m < n + 1 → lo ≤ l.getD m 0 ∧ l.getD m 0 ≤ hi := fun m hm' => by
        by_cases e : m = n
        · subst e; exact h
        · exact hm m (by omega)
      by_cases h0 : n = 0
      · obtain ⟨b, hb, hiff⟩ := ih (n + 1) (by omega) hm1 (fun m hm' => by omega)
        refine ⟨b, ?_, hiff⟩
        refine ev_succ ?_
        simp only [impl_ascends.l0, impl_in_eq, Option.bind_some]
        refine ev_pos (by omega) (ev_pos (by omega) (ev_pos (by omega) (ev_pos (by rw [rd_nat]; simpa using h) (ev_neg (by omega) ?_))))
        rw [w64_succ (m := l.length) (by omega) hx]
        exact hb
      · have e1 : wrap64 ((n : Int) - 1) = ((n - 1 : Nat) : Int) := by rw [w64 (by omega) (by omega)]; omega
        by_cases h2 : l.getD (n - 1) 0 < l.getD n 0
        · obtain ⟨b, hb, hiff⟩ := ih (n + 1) (by omega) hm1 (fun m hm' => by
            by_cases e : m + 1 = n
            · have : m = n - 1 := by omega
              subst this
              rw [e]; exact h2
            · exact hr m (by omega))
          refine ⟨b, ?_, hiff⟩
          refine ev_succ ?_
          simp only [impl_ascends.l0, impl_in_eq, Option.bind_some, e1, rd_nat]
          refine ev_pos (by omega) (ev_pos (by omega) (ev_pos (by omega) (ev_pos (by simpa using h) (ev_pos (by omega) (ev_pos (by omega) (ev_pos (by omega) (ev_neg (by omega) ?_)))))))
          rw [w64_succ (m := l.length) (by omega) hx]
          exact hb
        · refine ⟨false, ?_, ⟨fun h' => (Bool.false_ne_true h').elim, fun h' => absurd (by have := h'.2 (n - 1) (by omega); rwa [show n - 1 + 1 = n by omega] at this) h2⟩⟩
          refine ev_succ ?_
          simp only [impl_ascends.l0, impl_in_eq, Option.bind_some, e1, rd_nat]
          exact ev_pos (by omega) (ev_pos (by omega) (ev_pos (by omega) (ev_pos (by simpa using h) (ev_pos (by omega) (ev_pos (by omega) (ev_pos (by omega) (ev_pos (by omega) (Ev.now _))))))))
    · refine ⟨false, ?_, ⟨fun h' => (Bool.false_ne_true h').elim, fun h' => absurd (h'.1 n (by omega)) h⟩⟩
      refine ev_succ ?_
      simp only [impl_ascends.l0, impl_in_eq, Option.bind_some]
      exact ev_pos (by omega) (ev_pos (by omega) (ev_pos (by omega) (ev_neg (by rw [rd_nat]; simpa using h) (Ev.now _))))
theorem impl_asc_ev (l : List Int) (lo hi : Int) (hx : l.length ≤ 9223372036854775807) : ∃ b, Ev (fun k => impl_ascends.f k l lo hi) b ∧ (b = true ↔ AllIn l lo hi ∧ Rise l) := by
  unfold impl_ascends.f
  exact impl_asc_loop l lo hi hx l.length 0 (by omega) (fun m h => by omega) (fun m h => by omega)

theorem rdL_nat (l : List (List Int)) (n : Nat) : rd_L1 l (n : Int) = l.getD n [] := by
  unfold rd_L1
  rw [Int.toNat_natCast]
theorem szIntSS_loop (G : List (List Int)) (hx : G.length ≤ 9223372036854775807) (hr : ∀ m, (G.getD m []).length ≤ 9223372036854775807) : ∀ (d n : Nat) (x : Int), n + d = G.length → 0 ≤ x → x ≤ 1048576 → ∃ t, Ev (fun k => laws_szIntSS.l0 k G x (n : Int)) t ∧ t ≤ 1048576 ∧ (0 ≤ t → ∀ m, n ≤ m → (G.getD m []).length ≤ 1048576) := by
  intro d
  induction d with
  | zero =>
    intro n x hn h0 h1
    refine ⟨x, ev_succ ?_, h1, fun _ m hm => ?_⟩
    · simp only [laws_szIntSS.l0]
      exact ev_neg (by omega) (Ev.now _)
    · rw [List.getD_eq_getElem?_getD, List.getElem?_eq_none (by omega)]
      simp
  | succ d ih =>
    intro n x hn h0 h1
    have k1 : (n : Int) < (G.length : Int) := by omega
    by_cases h : x - ((G.getD n []).length : Int) < 0
    · refine ⟨-1, ev_succ ?_, by omega, fun h => by omega⟩
      simp only [laws_szIntSS.l0, rdL_nat, szIntS_eq _ x h0 h1 (hr n), if_pos h, Option.bind_some]
      exact ev_pos k1 (ev_pos (Int.natCast_nonneg n) (ev_pos (by decide) (Ev.now _)))
    · obtain ⟨t, e, ht, hs⟩ := ih (n + 1) (x - ((G.getD n []).length : Int)) (by omega) (by omega) (by omega)
      refine ⟨t, ev_succ ?_, ht, fun h' m hm => ?_⟩
      · simp only [laws_szIntSS.l0, rdL_nat, szIntS_eq _ x h0 h1 (hr n), if_neg h, Option.bind_some]
        refine ev_pos k1 (ev_pos (Int.natCast_nonneg n) ?_)
        rw [w64_succ (m := G.length) (n := n) (by omega) hx]
        exact e
      · by_cases e' : m = n
        · subst e'; omega
        · exact hs h' m (by omega)
theorem szIntSS_ev (G : List (List Int)) (hx : G.length ≤ 9223372036854775807) (hr : ∀ m, (G.getD m []).length ≤ 9223372036854775807) (a : Int) (h0 : 0 ≤ a) (h1 : a ≤ 1048576) : ∃ t, Ev (fun k => laws_szIntSS.f k G a) t ∧ t ≤ 1048576 ∧ (0 ≤ t → G.length ≤ 1048576 ∧ ∀ m, (G.getD m []).length ≤ 1048576) := by
  unfold laws_szIntSS.f
  have e := w64 (x := a - (G.length : Int)) (by omega) (by omega)
  simp only [e]
  by_cases h : a - (G.length : Int) < 0
  · exact ⟨-1, ev_pos h (Ev.now _), by omega, fun h => by omega⟩
  · obtain ⟨t, e, ht, hs⟩ := szIntSS_loop G hx hr G.length 0 (a - (G.length : Int)) (by omega) (by omega) (by omega)
    exact ⟨t, ev_neg h e, ht, fun h' => ⟨by omega, fun m => hs h' m (by omega)⟩⟩
def Small (X Y : List Int) (G : List (List Int)) : Prop := X.length ≤ 1048576 ∧ Y.length ≤ 1048576 ∧ G.length ≤ 1048576 ∧ ∀ m, (G.getD m []).length ≤ 1048576
theorem szGrid_ev (X Y : List Int) (G : List (List Int)) (hX : X.length ≤ 9223372036854775807) (hY : Y.length ≤ 9223372036854775807) (hx : G.length ≤ 9223372036854775807) (hr : ∀ m, (G.getD m []).length ≤ 9223372036854775807) : ∃ t, Ev (fun k => laws_szGrid.f k X Y G 1048576) t ∧ (0 ≤ t → Small X Y G) := by
  unfold laws_szGrid.f
  simp only [szIntS_eq X 1048576 (by omega) (by omega) hX, Option.bind_some]
  by_cases h : (1048576 : Int) - X.length < 0
  · simp only [if_pos h]
    exact ⟨-1, ev_pos (by decide) (Ev.now _), fun h => by omega⟩
  simp only [if_neg h]
  simp only [szIntS_eq Y (1048576 - (X.length : Int)) (by omega) (by omega) hY, Option.bind_some]
  by_cases h' : (1048576 : Int) - X.length - Y.length < 0
  · simp only [if_pos h']
    exact ⟨-1, ev_pos (by decide) (Ev.now _), fun h => by omega⟩
  simp only [if_neg h']
  obtain ⟨t, e, ht, hs⟩ := szIntSS_ev G hx hr (1048576 - (X.length : Int) - Y.length) (by omega) (by omega)
  by_cases h2 : t < 0
  · exact ⟨-1, Ev.bind e (ev_pos h2 (Ev.now _)), fun h => by omega⟩
  · exact ⟨t, Ev.bind e (ev_neg h2 (Ev.now _)), fun h => ⟨by omega, by omega, hs h⟩⟩
theorem rows_small {G : List (List Int)} {N : Nat} (h : ∀ y ∈ G, y.length ≤ N) (m : Nat) : (G.getD m []).length ≤ N := by
  rw [List.getD_eq_getElem?_getD]
  cases e : G[m]? with
  | none => simp
  | some v => exact h v (List.mem_of_getElem? e)
theorem toIntSS_loop (x0 : List (List Int)) (hx : x0.length ≤ 1048576) (hr : ∀ m, (x0.getD m []).length ≤ 1048576) : ∀ (d n : Nat) (x3 : List (List Int)), n + d = x0.length → x3.length = x0.length → x3.take n = x0.take n → Ev (fun k => laws_toIntSS.l0 k x0 x3 (n : Int)) x0 := by
  intro d
  induction d with
  | zero =>
    intro n x3 hn hl ht
    refine ev_succ ?_
    simp only [laws_toIntSS.l0]
    refine ev_neg (by omega) ?_
    have e : x3 = x0 := by rw [← List.take_of_length_le (l := x3) (i := n) (by omega), ht, List.take_of_length_le (by omega)]
    rw [e]
    exact Ev.now _
  | succ d ih =>
    intro n x3 hn hl ht
    refine ev_succ ?_
    simp only [laws_toIntSS.l0, rdL_nat, Int.toNat_natCast]
    refine ev_pos (by omega) (ev_pos (by omega) (Ev.bind (toIntS_ev _ (Nat.le_trans (hr n) (by omega))) (ev_pos (by omega) ?_)))
    rw [w64_succ (m := x0.length) (by omega) (by omega)]
    exact ih (n + 1) _ (by omega) (by simpa using hl) (take_set_succ _ (by omega) hl ht)
theorem toIntSS_ev (G : List (List Int)) (hx : G.length ≤ 1048576) (hr : ∀ m, (G.getD m []).length ≤ 1048576) : Ev (fun k => laws_toIntSS.f k G) G := by
  unfold laws_toIntSS.f
  exact ev_pos (by omega) (ev_pos (by omega) (toIntSS_loop G hx hr G.length 0 _ (by omega) (by simp) (by simp)))
theorem toGrid_ev {X Y : List Int} {G : List (List Int)} (h : Small X Y G) : Ev (fun k => laws_toGrid.f k X Y G) (X, Y, G) := by
  obtain ⟨h1, h2, h3, h4⟩ := h
  unfold laws_toGrid.f
  exact Ev.bind (toIntS_ev X (by omega)) (Ev.bind (toIntS_ev Y (by omega)) (Ev.bind (toIntSS_ev G h3 h4) (Ev.now _)))
theorem eqIntSS_loop (x0 : List (List Int)) (hx : x0.length ≤ 1048576) (hr : ∀ m, (x0.getD m []).length ≤ 1048576) : ∀ (d n : Nat), n + d = x0.length → Ev (fun k => laws_eqIntSS.l0 k x0 x0 (n : Int)) true := by
  intro d
  induction d with
  | zero =>
    intro n hn
    refine ev_succ ?_
    simp only [laws_eqIntSS.l0]
    exact ev_neg (by omega) (Ev.now _)
  | succ d ih =>
    intro n hn
    refine ev_succ ?_
    simp only [laws_eqIntSS.l0, rdL_nat]
    refine ev_pos (by omega) (ev_pos (by omega) (ev_pos (by omega) (Ev.bind (eqIntS_ev _ (Nat.le_trans (hr n) (by omega))) (ev_pos (by trivial) ?_))))
    rw [w64_succ (m := x0.length) (by omega) (by omega)]
    exact ih (n + 1) (by omega)
theorem eqIntSS_ev (G : List (List Int)) (hx : G.length ≤ 1048576) (hr : ∀ m, (G.getD m []).length ≤ 1048576) : Ev (fun k => laws_eqIntSS.f k G G) true := by
  unfold laws_eqIntSS.f
  exact ev_pos (by trivial) (eqIntSS_loop G hx hr G.length 0 (by omega))
theorem eqGrid_ev {X Y : List Int} {G : List (List Int)} (h : Small X Y G) : Ev (fun k => laws_eqGrid.f k X Y G X Y G) true := by
  obtain ⟨h1, h2, h3, h4⟩ := h
  unfold laws_eqGrid.f
  exact Ev.bind (eqIntS_ev X (by omega)) (ev_pos (by trivial) (Ev.bind (eqIntS_ev Y (by omega)) (ev_pos (by trivial) (Ev.bind (eqIntSS_ev G h3 h4) (ev_pos (by trivial) (Ev.now _))))))
def RowsP (X : List Int) (G : List (List Int)) : Prop := ∀ m, m < G.length → (G.getD m []).length = X.length ∧ AllIn (G.getD m []) (-1000) 1000
def GridP (X Y : List Int) (G : List (List Int)) : Prop := (2 ≤ X.length ∧ X.length ≤ 20) ∧ (2 ≤ Y.length ∧ Y.length ≤ 20) ∧ Rise X ∧ Rise Y ∧ AllIn X (-1000) 1000 ∧ AllIn Y (-1000) 1000 ∧ G.length = Y.length ∧ RowsP X G
theorem spec_grid_loop {X Y : List Int} {G : List (List Int)} (h : Small X Y G) : ∀ (d n : Nat), n + d = G.length → (∀ m, m < n → (G.getD m []).length = X.length ∧ AllIn (G.getD m []) (-1000) 1000) → EvB (fun k => spec_GridOk.l0 k (n : Int) X Y G) (RowsP X G) := by
  obtain ⟨h1, h2, h3, h4⟩ := h
  intro d
  induction d with
  | zero =>
    intro n hn hm
    refine EvB.succ ?_
    simp only [spec_GridOk.l0]
    exact EvB.neg (by omega) (EvB.true_ (fun m h => hm m (by omega)))
  | succ d ih =>
    intro n hn hm
    refine EvB.succ ?_
    simp only [spec_GridOk.l0, rdL_nat]
    refine EvB.pos (by omega) (EvB.pos (by omega) ?_)
    by_cases hl : ((G.getD n []).length : Int) = (X.length : Int)
    · refine EvB.pos hl ?_
      obtain ⟨b, hb, ib⟩ := spec_all_ev (G.getD n []) (-1000) 1000 (Nat.le_trans (h4 n) (by omega))
      cases b with
      | false => exact ⟨false, Ev.bind hb (ev_neg (by decide) (Ev.now _)), ⟨fun e => (Bool.false_ne_true e).elim, fun e => absurd (ib.2 (e n (by omega)).2) (by decide)⟩⟩
      | true =>
        obtain ⟨b', hb', ib'⟩ := ih (n + 1) (by omega) (fun m hm' => by
          by_cases e : m = n
          · subst e; exact ⟨by omega, ib.1 rfl⟩
          · exact hm m (by omega))
        refine ⟨b', Ev.bind hb (ev_pos rfl ?_), ib'⟩
        rw [w64_succ (m := G.length) (n := n) (by omega) (by omega)]
        exact hb'
    · exact EvB.neg hl (EvB.false_ (fun e => hl (by rw [(e n (by omega)).1])))
theorem spec_grid_ev {X Y : List Int} {G : List (List Int)} (h : Small X Y G) : EvB (fun k => spec_GridOk.f k X Y G) (GridP X Y G) := by
  have bad : Ev (fun k => spec_GridOk.j0 k true X Y G) false := by
    refine ev_succ ?_
    simp only [spec_GridOk.j0]
    exact ev_pos (by trivial) (Ev.now _)
  have last : EvB (fun k => spec_GridOk.j0 k ((G.length : Int) != (Y.length : Int)) X Y G) (G.length = Y.length ∧ RowsP X G) := by
    by_cases e : G.length = Y.length
    · refine EvB.iff (p := RowsP X G) ?_ ⟨fun h => ⟨e, h⟩, fun h => h.2⟩
      have e' : ((G.length : Int) != (Y.length : Int)) = false := by simp [e]
      rw [e']
      refine EvB.succ ?_
      simp only [spec_GridOk.j0]
      exact EvB.neg (by decide) (spec_grid_loop h G.length 0 (by omega) (fun m h => by omega))
    · have e' : ((G.length : Int) != (Y.length : Int)) = true := by simp; omega
      rw [e']
      exact ⟨false, bad, ⟨fun e => (Bool.false_ne_true e).elim, fun e' => absurd e'.1 e⟩⟩
  obtain ⟨h1, h2, h3, h4⟩ := id h
  unfold spec_GridOk.f
  refine (EvB.bindE bad (spec_in_evB _ _ _) (EvB.bindE bad (spec_in_evB _ _ _) (EvB.bindE bad (spec_rise_ev X (by omega)) (EvB.bindE bad (spec_rise_ev Y (by omega)) (EvB.bindE bad (spec_all_ev X _ _ (by omega)) (EvB.bindE bad (spec_all_ev Y _ _ (by omega)) last)))))).iff ?_
  unfold GridP
  constructor
  · rintro ⟨a1, a2, a3, a4, a5, a6, a7, a8⟩; exact ⟨by omega, by omega, a3, a4, a5, a6, a7, a8⟩
  · rintro ⟨a1, a2, a3, a4, a5, a6, a7, a8⟩; exact ⟨by omega, by omega, a3, a4, a5, a6, a7, a8⟩
theorem impl_grid_loop {X Y : List Int} {G : List (List Int)} (h : Small X Y G) : ∀ (d n : Nat), n + d = G.length → (∀ m, m < n → (G.getD m []).length = X.length ∧ AllIn (G.getD m []) (-1000) 1000) → EvB (fun k => impl_GridOk.l0 k G (G.length : Int) (n : Int) X Y G) (GridP X Y G) := by
  obtain ⟨h1, h2, h3, h4⟩ := h
  intro d
  induction d with
  | zero =>
    intro n hn hm
    refine EvB.succ ?_
    simp only [impl_GridOk.l0]
    refine EvB.neg (by omega) ((EvB.bind (impl_in_evB _ _ _) (EvB.bind (impl_in_evB _ _ _) (EvB.ite (EvB.bind (impl_asc_ev X _ _ (by omega)) (EvB.last (impl_asc_ev Y _ _ (by omega))))))).iff ?_)
    have hR : RowsP X G := fun m h => hm m (by omega)
    unfold GridP
    constructor
    · rintro ⟨a1, a2, a3, ⟨a4, a5⟩, a6, a7⟩; exact ⟨by omega, by omega, a5, a7, a4, a6, by omega, hR⟩
    · rintro ⟨a1, a2, a3, a4, a5, a6, a7, a8⟩; exact ⟨by omega, by omega, by omega, ⟨a5, a3⟩, a6, a4⟩
  | succ d ih =>
    intro n hn hm
    refine EvB.succ ?_
    simp only [impl_GridOk.l0, rdL_nat]
    refine EvB.pos (by omega) (EvB.pos (by omega) (EvB.pos (by omega) ?_))
    by_cases hl : ((G.getD n []).length : Int) = (X.length : Int)
    · refine EvB.pos hl ?_
      obtain ⟨b, hb, ib⟩ := impl_all_ev (G.getD n []) (-1000) 1000 (Nat.le_trans (h4 n) (by omega))
      cases b with
      | false => exact ⟨false, Ev.bind hb (ev_neg (by decide) (Ev.now _)), ⟨fun e => (Bool.false_ne_true e).elim, fun e => absurd (ib.2 (e.2.2.2.2.2.2.2 n (by omega)).2) (by decide)⟩⟩
      | true =>
        obtain ⟨b', hb', ib'⟩ := ih (n + 1) (by omega) (fun m hm' => by
          by_cases e : m = n
          · subst e; exact ⟨by omega, ib.1 rfl⟩
          · exact hm m (by omega))
        refine ⟨b', Ev.bind hb (ev_pos rfl ?_), ib'⟩
        rw [w64_succ (m := G.length) (n := n) (by omega) (by omega)]
        exact hb'
    · exact EvB.neg hl (EvB.false_ (fun e => hl (by rw [(e.2.2.2.2.2.2.2 n (by omega)).1])))
theorem impl_grid_ev {X Y : List Int} {G : List (List Int)} (h : Small X Y G) : EvB (fun k => impl_GridOk.f k X Y G) (GridP X Y G) := by
  unfold impl_GridOk.f
  exact impl_grid_loop h G.length 0 (by omega) (fun m h => by omega)

theorem piece_loop (X : List Int) (x : Int) (hx : X.length ≤ 1048576) : ∀ (d n : Nat), n + 2 + d = X.length → ∃ r : Nat, r + 1 < X.length ∧ Ev (fun k => spec_l1Low.l0 k X x (n : Int)) (r : Int) ∧ Ev (fun k => impl_piece.l0 k X x (n : Int)) (r : Int) := by
  intro d
  induction d with
  | zero =>
    intro n hn
    have e : wrap64 ((n : Int) + 2) = (n : Int) + 2 := w64 (by omega) (by omega)
    refine ⟨n, by omega, ev_succ ?_, ev_succ ?_⟩
    · simp only [spec_l1Low.l0, e]
      exact ev_neg (by omega) (Ev.now _)
    · simp only [impl_piece.l0, e]
      exact ev_neg (by omega) (Ev.now _)
  | succ d ih =>
    intro n hn
    have e : wrap64 ((n : Int) + 2) = (n : Int) + 2 := w64 (by omega) (by omega)
    have e1 := w64_succ (m := X.length) (n := n) (by omega) (by omega)
    by_cases h : rd X ((n + 1 : Nat) : Int) ≤ x
    · obtain ⟨r, h0, h1, h2⟩ := ih (n + 1) (by omega)
      refine ⟨r, h0, ev_succ ?_, ev_succ ?_⟩
      · simp only [spec_l1Low.l0, e, e1]
        exact ev_pos (by omega) (ev_pos (by omega) (ev_pos (by omega) (ev_pos h h1)))
      · simp only [impl_piece.l0, e, e1]
        exact ev_pos (by omega) (ev_pos (by omega) (ev_pos (by omega) (ev_pos h h2)))
    · refine ⟨n, by omega, ev_succ ?_, ev_succ ?_⟩
      · simp only [spec_l1Low.l0, e, e1]
        exact ev_pos (by omega) (ev_pos (by omega) (ev_pos (by omega) (ev_neg h (Ev.now _))))
      · simp only [impl_piece.l0, e, e1]
        exact ev_pos (by omega) (ev_pos (by omega) (ev_pos (by omega) (ev_neg h (Ev.now _))))
theorem piece_both (X : List Int) (x : Int) (h2 : 2 ≤ X.length) (hx : X.length ≤ 1048576) : ∃ r : Nat, r + 1 < X.length ∧ Ev (fun k => spec_l1Low.f k X x) (r : Int) ∧ Ev (fun k => impl_piece.f k X x) (r : Int) := by
  unfold spec_l1Low.f impl_piece.f
  exact piece_loop X x hx (X.length - 2) 0 (by omega)

theorem mul_bd {a b : Int} (A B : Int) (ha : -A ≤ a ∧ a ≤ A) (hb : -B ≤ b ∧ b ≤ B) : -(A * B) ≤ a * b ∧ a * b ≤ A * B := by
  have h : (a * b).natAbs ≤ A.natAbs * B.natAbs := by
    rw [Int.natAbs_mul]
    exact Nat.mul_le_mul (by omega) (by omega)
  have e : A * B = ((A.natAbs * B.natAbs : Nat) : Int) := by
    rw [Int.natCast_mul, Int.natAbs_of_nonneg (by omega), Int.natAbs_of_nonneg (by omega)]
  omega

theorem tmod_nat (a b : Nat) : Int.tmod (a : Int) (b : Int) = ((a % b : Nat) : Int) := rfl
theorem spec_frac_loop (n d : Int) : ∀ (b a : Nat), Nat.gcd a b ≠ 0 → Ev (fun k => spec_l1Frac.l0 k n d (a : Int) (b : Int)) (wrap64 (Int.tdiv n ((Nat.gcd a b : Nat) : Int)), wrap64 (Int.tdiv d ((Nat.gcd a b : Nat) : Int))) := by
  intro b
  induction b using Nat.strongRecOn with
  | _ b ih =>
    intro a hg
    refine ev_succ ?_
    simp only [spec_l1Frac.l0]
    by_cases hb : b = 0
    · subst hb
      rw [Nat.gcd_zero_right] at *
      exact ev_pos (by trivial) (ev_neg (by omega) (Ev.now _))
    · have e : Nat.gcd a b = Nat.gcd b (a % b) := by rw [Nat.gcd_comm a b, Nat.gcd_rec b a, Nat.gcd_comm]
      rw [tmod_nat]
      rw [e] at hg ⊢
      exact ev_neg (by omega) (ih (a % b) (Nat.mod_lt _ (by omega)) b hg)
theorem impl_gcd_loop : ∀ (m : Nat) (a b : Int), b.natAbs = m → a.natAbs ≤ 9223372036854775807 → b.natAbs ≤ 9223372036854775807 → Ev (fun k => impl_gcd.l0 k a b) ((Nat.gcd a.natAbs b.natAbs : Nat) : Int) := by
  intro m
  induction m using Nat.strongRecOn with
  | _ m ih =>
    intro a b hm ha hb
    refine ev_succ ?_
    simp only [impl_gcd.l0, impl_size.f, Option.bind_some]
    by_cases h0 : b = 0
    · subst h0
      rw [Int.natAbs_zero, Nat.gcd_zero_right]
      have e : mx a (wrap64 (-a)) = (a.natAbs : Int) := by
        rw [w64 (by omega) (by omega)]
        unfold mx
        split <;> omega
      rw [e]
      exact ev_pos (by trivial) (Ev.now _)
    · have e : (Int.tmod a b).natAbs = a.natAbs % b.natAbs := Int.natAbs_tmod a b
      have hlt : a.natAbs % b.natAbs < b.natAbs := Nat.mod_lt _ (by omega)
      have := ih (Int.tmod a b).natAbs (by omega) b (Int.tmod a b) rfl hb (by omega)
      rw [e] at this
      rw [Nat.gcd_comm a.natAbs b.natAbs, Nat.gcd_rec b.natAbs a.natAbs, Nat.gcd_comm]
      exact ev_neg h0 this
theorem frac_both {n d : Int} (hn : -9223372036854775807 ≤ n ∧ n ≤ 9223372036854775807) (hd : 0 < d ∧ d ≤ 9223372036854775807) : ∃ r : Int × Int, Ev (fun k => spec_l1Frac.f k n d) r ∧ Ev (fun k => impl_frac.f k n d) r := by
  have hg : Nat.gcd n.natAbs d.natAbs ≠ 0 := by
    intro h
    have := Nat.eq_zero_of_gcd_eq_zero_right h
    omega
  have a := impl_gcd_loop d.natAbs n d rfl (by omega) (by omega)
  have b := spec_frac_loop n d d.natAbs n.natAbs hg
  have e : spec_l1Abs.f n = some (n.natAbs : Int) := by
    unfold spec_l1Abs.f
    by_cases h : n < 0
    · rw [if_pos h, w64 (by omega) (by omega)]
      congr 1
      omega
    · rw [if_neg h]
      congr 1
      omega
  have ed : (d.natAbs : Int) = d := by omega
  rw [ed] at b
  refine ⟨(wrap64 (Int.tdiv n ((Nat.gcd n.natAbs d.natAbs : Nat) : Int)), wrap64 (Int.tdiv d ((Nat.gcd n.natAbs d.natAbs : Nat) : Int))), ?_, ?_⟩
  rotate_left
  · unfold impl_frac.f
    exact Ev.bind a (ev_neg (by omega) (Ev.now _))
  · unfold spec_l1Frac.f
    refine ev_neg (by omega) (ev_succ ?_)
    simp only [spec_l1Frac.j0, e, Option.bind_some]
    exact b

theorem between_bd {a b c d x : Int} (ha : 0 < b - a ∧ b - a ≤ 2000) (hc : -1000 ≤ c ∧ c ≤ 1000) (hd : -1000 ≤ d ∧ d ≤ 1000) (hx : -2000 ≤ x - a ∧ x - a ≤ 2000) :
    wrap64 ((wrap64 (c * (wrap64 (b - a)))) + (wrap64 ((wrap64 (d - c)) * (wrap64 (x - a))))) = c * (b - a) + (d - c) * (x - a) ∧ -6000000 ≤ c * (b - a) + (d - c) * (x - a) ∧ c * (b - a) + (d - c) * (x - a) ≤ 6000000 := by
  have w1 : wrap64 (b - a) = b - a := w64 (by omega) (by omega)
  have w2 : wrap64 (d - c) = d - c := w64 (by omega) (by omega)
  have w3 : wrap64 (x - a) = x - a := w64 (by omega) (by omega)
  have m1 := mul_bd (a := c) (b := b - a) 1000 2000 hc (by omega)
  have m2 := mul_bd (a := d - c) (b := x - a) 2000 2000 (by omega) hx
  rw [w1, w2, w3]
  generalize c * (b - a) = p at *
  generalize (d - c) * (x - a) = q at *
  rw [w64 (x := p) (by omega) (by omega), w64 (x := q) (by omega) (by omega), w64 (x := p + q) (by omega) (by omega)]
  omega
theorem num_bd {A B h t : Int} (hA : -6000000 ≤ A ∧ A ≤ 6000000) (hB : -6000000 ≤ B ∧ B ≤ 6000000) (hh : -2000 ≤ h ∧ h ≤ 2000) (ht : -2000 ≤ t ∧ t ≤ 2000) :
    wrap64 ((wrap64 (A * h)) + (wrap64 ((wrap64 (B - A)) * t))) = A * h + (B - A) * t ∧ -9223372036854775807 ≤ A * h + (B - A) * t ∧ A * h + (B - A) * t ≤ 9223372036854775807 := by
  have w2 : wrap64 (B - A) = B - A := w64 (by omega) (by omega)
  have m1 := mul_bd (a := A) (b := h) 6000000 2000 hA hh
  have m2 := mul_bd (a := B - A) (b := t) 12000000 2000 (by omega) ht
  rw [w2]
  generalize A * h = p at *
  generalize (B - A) * t = q at *
  rw [w64 (x := p) (by omega) (by omega), w64 (x := q) (by omega) (by omega), w64 (x := p + q) (by omega) (by omega)]
  omega
theorem at_core {X Y : List Int} {G : List (List Int)} (hP : GridP X Y G) (x y : Int) (hx : -1000 ≤ x ∧ x ≤ 1000) (hy : -1000 ≤ y ∧ y ≤ 1000) : ∃ r : Int × Int × Bool, Ev (fun k => spec_AtGrid.j0 k x y false X Y G) r ∧ Ev (fun k => impl_AtGrid.j0 k x y false X Y G) r := by
  obtain ⟨hX, hY, rX, rY, aX, aY, hG, hR⟩ := hP
  obtain ⟨i, hi, p1, p2⟩ := piece_both X x (by omega) (by omega)
  obtain ⟨j, hj, q1, q2⟩ := piece_both Y y (by omega) (by omega)
  have ei := w64_succ (m := X.length) (n := i) (by omega) (by omega)
  have ej := w64_succ (m := Y.length) (n := j) (by omega) (by omega)
  obtain ⟨l0, g0⟩ := hR j (by omega)
  obtain ⟨l1, g1⟩ := hR (j + 1) (by omega)
  have x0 := aX i (by omega)
  have x1 := aX (i + 1) (by omega)
  have xr := rX i (by omega)
  have y0 := aY j (by omega)
  have y1 := aY (j + 1) (by omega)
  have yr := rY j (by omega)
  have z00 := g0 i (by omega)
  have z01 := g0 (i + 1) (by omega)
  have z10 := g1 i (by omega)
  have z11 := g1 (i + 1) (by omega)
  have A := between_bd (a := X.getD i 0) (b := X.getD (i + 1) 0) (c := (G.getD j []).getD i 0) (d := (G.getD j []).getD (i + 1) 0) (x := x) (by omega) z00 z01 (by omega)
  have B := between_bd (a := X.getD i 0) (b := X.getD (i + 1) 0) (c := (G.getD (j + 1) []).getD i 0) (d := (G.getD (j + 1) []).getD (i + 1) 0) (x := x) (by omega) z10 z11 (by omega)
  have wx : wrap64 (X.getD (i + 1) 0 - X.getD i 0) = X.getD (i + 1) 0 - X.getD i 0 := w64 (by omega) (by omega)
  have wy : wrap64 (Y.getD (j + 1) 0 - Y.getD j 0) = Y.getD (j + 1) 0 - Y.getD j 0 := w64 (by omega) (by omega)
  have wt : wrap64 (y - Y.getD j 0) = y - Y.getD j 0 := w64 (by omega) (by omega)
  have N := num_bd (h := Y.getD (j + 1) 0 - Y.getD j 0) (t := y - Y.getD j 0) A.2 B.2 (by omega) (by omega)
  have D := mul_bd (a := X.getD (i + 1) 0 - X.getD i 0) (b := Y.getD (j + 1) 0 - Y.getD j 0) 2000 2000 (by omega) (by omega)
  have D0 : 0 < (X.getD (i + 1) 0 - X.getD i 0) * (Y.getD (j + 1) 0 - Y.getD j 0) := Int.mul_pos (by omega) (by omega)
  have wd : wrap64 ((X.getD (i + 1) 0 - X.getD i 0) * (Y.getD (j + 1) 0 - Y.getD j 0)) = (X.getD (i + 1) 0 - X.getD i 0) * (Y.getD (j + 1) 0 - Y.getD j 0) := w64 (by omega) (by omega)
  obtain ⟨r, f1, f2⟩ := frac_both N.2 ⟨D0, by omega⟩
  have A1 := A.1
  have B1 := B.1
  have N1 := N.1
  rw [wx] at A1 B1
  have k0 := Int.natCast_nonneg i
  have k1 := Int.natCast_nonneg j
  have k2 : (i : Int) < (X.length : Int) := by omega
  have k3 : ((i + 1 : Nat) : Int) < (X.length : Int) := by omega
  have k4 : (j : Int) < (Y.length : Int) := by omega
  have k5 : ((j + 1 : Nat) : Int) < (Y.length : Int) := by omega
  have k6 : (j : Int) < (G.length : Int) := by omega
  have k7 : ((j + 1 : Nat) : Int) < (G.length : Int) := by omega
  have k8 : (i : Int) < ((G.getD j []).length : Int) := by omega
  have k9 : ((i + 1 : Nat) : Int) < ((G.getD j []).length : Int) := by omega
  have ka : (i : Int) < ((G.getD (j + 1) []).length : Int) := by omega
  have kb : ((i + 1 : Nat) : Int) < ((G.getD (j + 1) []).length : Int) := by omega
  have kc := Int.natCast_nonneg (i + 1)
  have kd := Int.natCast_nonneg (j + 1)
  refine ⟨(r.1, r.2, true), ev_succ ?_, ev_succ ?_⟩
  · simp only [spec_AtGrid.j0]
    refine ev_neg (by decide) (Ev.bind p1 (Ev.bind q1 ?_))
    simp only [ei, ej, rd_nat, rdL_nat, wx, wy, wt, A1, B1, N1, wd]
    exact ev_pos kc (ev_pos k3 (ev_pos k0 (ev_pos k2 (ev_pos kd (ev_pos k5 (ev_pos k1 (ev_pos k4 (ev_pos k6 (ev_pos k8 (ev_pos k9 (ev_pos k7 (ev_pos ka (ev_pos kb (Ev.bind f1 (Ev.now _)))))))))))))))
  · simp only [impl_AtGrid.j0]
    refine ev_neg (by decide) (Ev.bind p2 (Ev.bind q2 ?_))
    simp only [ei, ej, rd_nat, rdL_nat, impl_between.f, Option.bind_some, wx, wy, wt, A1, B1, N1, wd]
    exact ev_pos k0 (ev_pos k2 (ev_pos kc (ev_pos k3 (ev_pos k1 (ev_pos k6 (ev_pos k8 (ev_pos k9 (ev_pos kd (ev_pos k7 (ev_pos ka (ev_pos kb (ev_pos k4 (ev_pos k5 (Ev.bind f2 (Ev.now _)))))))))))))))
theorem end_nat {T : List Int} (h : 1 ≤ T.length) (h' : T.length ≤ 1048576) : wrap64 ((T.length : Int) - 1) = ((T.length - 1 : Nat) : Int) := by
  rw [w64 (by omega) (by omega)]
  omega
theorem at_both {X Y : List Int} {G : List (List Int)} (h : Small X Y G) (x y : Int) : ∃ r : Int × Int × Bool, Ev (fun k => spec_AtGrid.f k X Y G x y) r ∧ Ev (fun k => impl_AtGrid.f k X Y G x y) r := by
  have n1 : Ev (fun k => spec_AtGrid.j0 k x y true X Y G) (0, 0, false) := by
    refine ev_succ ?_
    simp only [spec_AtGrid.j0]
    exact ev_pos (by trivial) (Ev.now _)
  have n2 : Ev (fun k => impl_AtGrid.j0 k x y true X Y G) (0, 0, false) := by
    refine ev_succ ?_
    simp only [impl_AtGrid.j0]
    exact ev_pos (by trivial) (Ev.now _)
  obtain ⟨b, hb, hc, ib⟩ := (spec_grid_ev h).same (impl_grid_ev h)
  unfold spec_AtGrid.f impl_AtGrid.f
  cases b with
  | false => exact ⟨_, Ev.bind hb (ev_neg (by decide) n1), Ev.bind hc (ev_neg (by decide) n2)⟩
  | true =>
    have hP := ib.1 rfl
    obtain ⟨hX, hY, rX, rY, aX, aY, hG, hR⟩ := ib.1 rfl
    have eX := end_nat (T := X) (by omega) (by omega)
    have eY := end_nat (T := Y) (by omega) (by omega)
    have zX : rd X 0 = X.getD 0 0 := rd_nat X 0
    have zY : rd Y 0 = Y.getD 0 0 := rd_nat Y 0
    have a1 := aX 0 (by omega)
    have a2 := aX (X.length - 1) (by omega)
    have b1 := aY 0 (by omega)
    have b2 := aY (Y.length - 1) (by omega)
    have k1 : (0 : Int) < (X.length : Int) := by omega
    have k2 : 0 ≤ ((X.length - 1 : Nat) : Int) := by omega
    have k3 : ((X.length - 1 : Nat) : Int) < (X.length : Int) := by omega
    have k4 : (0 : Int) < (Y.length : Int) := by omega
    have k5 : 0 ≤ ((Y.length - 1 : Nat) : Int) := by omega
    have k6 : ((Y.length - 1 : Nat) : Int) < (Y.length : Int) := by omega
    simp only [eX, eY, rd_nat, zX, zY, spec_in_eq, impl_in_eq, Option.bind_some]
    by_cases hx : X.getD 0 0 ≤ x ∧ x ≤ X.getD (X.length - 1) 0
    · simp only [decide_eq_true hx]
      by_cases hy : Y.getD 0 0 ≤ y ∧ y ≤ Y.getD (Y.length - 1) 0
      · simp only [decide_eq_true hy]
        obtain ⟨r, r1, r2⟩ := at_core hP x y (by omega) (by omega)
        exact ⟨r, Ev.bind hb (ev_pos rfl (ev_pos k1 (ev_pos k2 (ev_pos k3 (ev_pos (by trivial) (ev_pos k4 (ev_pos k5 (ev_pos k6 r1)))))))), Ev.bind hc (ev_pos rfl (ev_pos k1 (ev_pos k2 (ev_pos k3 (ev_pos (by trivial) (ev_pos k4 (ev_pos k5 (ev_pos k6 r2))))))))⟩
      · simp only [decide_eq_false hy]
        exact ⟨_, Ev.bind hb (ev_pos rfl (ev_pos k1 (ev_pos k2 (ev_pos k3 (ev_pos (by trivial) (ev_pos k4 (ev_pos k5 (ev_pos k6 n1)))))))), Ev.bind hc (ev_pos rfl (ev_pos k1 (ev_pos k2 (ev_pos k3 (ev_pos (by trivial) (ev_pos k4 (ev_pos k5 (ev_pos k6 n2))))))))⟩
    · simp only [decide_eq_false hx]
      exact ⟨_, Ev.bind hb (ev_pos rfl (ev_pos k1 (ev_pos k2 (ev_pos k3 (ev_neg (by decide) n1))))), Ev.bind hc (ev_pos rfl (ev_pos k1 (ev_pos k2 (ev_pos k3 (ev_neg (by decide) n2)))))⟩
theorem FnExactAtGrid : laws_FnExactAtGrid.PureR := by
  intro X Y G x y ⟨hx, _⟩ ⟨hy, _⟩ ⟨hg, hr⟩ _ _
  refine Ev.rounds ?_
  unfold laws_FnExactAtGrid.f
  obtain ⟨t, ht, hs⟩ := szGrid_ev X Y G hx hy hg (rows_small (fun y h => (hr y h).1))
  by_cases h : t < 0
  · exact Ev.bind ht (ev_pos h (Ev.now _))
  have hS := hs (by omega)
  obtain ⟨⟨p, q, c⟩, h1, h2⟩ := at_both hS x y
  have he := toGrid_ev hS
  have hq : laws_eqFrac.f p q p q = some true := by
    unfold laws_eqFrac.f
    rw [if_pos rfl, if_pos rfl]
  refine Ev.bind ht (ev_neg h (Ev.bind he (Ev.bind h1 (Ev.bind he (Ev.bind h2 ?_)))))
  simp only [hq, Option.bind_some]
  refine ev_pos (by trivial) (ev_succ ?_)
  simp only [laws_FnExactAtGrid.j0]
  exact ev_neg (by simp) (Ev.bind he (Ev.bind (eqGrid_ev hS) (ev_pos (by trivial) (Ev.now _))))

end Go.Proofs.Ytnphbpkpjinddaa.Pure
