/- Proved here: the program's and the reference's Order are the same function of the envelope, the dry sum, the tanks and the step, and share no memory; no condition. -/
import Derived.Test.YteedbciobdcmaaaPureDefFnExactOrder
namespace Go.Proofs.Yteedbciobdcmaaa.Pure
open Go.RowKit Go.Proofs.Yteedbciobdcmaaa.QFnExactOrder Go.Proofs.YteedbciobdcmaaaW.PrintWords Go.Proofs.YteedbciobdcmaaaW.PrintLast Go.Proofs.YteedbciobdcmaaaW.PrintMore
set_option linter.unusedVariables false
set_option linter.unusedSimpArgs false

theorem ev_pos {c : Prop} [Decidable c] {α : Type} {A B : Nat → Option α} {r : α} (h : c) (k : Ev A r) : Ev (fun n => if c then A n else B n) r := by
  simpa only [if_pos h] using k
theorem ev_neg {c : Prop} [Decidable c] {α : Type} {A B : Nat → Option α} {r : α} (h : ¬ c) (k : Ev B r) : Ev (fun n => if c then A n else B n) r := by
  simpa only [if_neg h] using k
theorem ev_succ {α : Type} {g : Nat → Option α} {r : α} (h : Ev (fun k => g (k + 1)) r) : Ev g r := Ev.step (fun _ => rfl) h
theorem ex_succ {α : Type} {g : Nat → Option α} (h : ∃ r, Ev (fun k => g (k + 1)) r) : ∃ r, Ev g r := by
  obtain ⟨r, h⟩ := h
  exact ⟨r, ev_succ h⟩
theorem ev_one {α : Type} {g : Nat → Option α} {r q : α} (h : Ev g r) (h' : Ev g q) : r = q := by
  obtain ⟨K, hK⟩ := h
  obtain ⟨L, hL⟩ := h'
  have a := hK (max K L) (Nat.le_max_left _ _)
  have b := hL (max K L) (Nat.le_max_right _ _)
  exact Option.some.inj (a.symm.trans b)
theorem ev_bool {α : Type} {A B : Nat → Option α} {r : α} (b : Bool) (h1 : b = true → Ev A r) (h2 : b = false → Ev B r) : Ev (fun n => if b = true then A n else B n) r := by
  cases b with
  | true => exact ev_pos (by trivial) (h1 rfl)
  | false => exact ev_neg (by decide) (h2 rfl)
theorem bool_eq_of_iff {a b : Bool} {p : Prop} (h : a = true ↔ p) (h' : b = true ↔ p) : a = b := by
  rw [Bool.eq_iff_iff]
  exact h.trans h'.symm
theorem w64 {x : Int} (h0 : -9223372036854775808 ≤ x) (h1 : x ≤ 9223372036854775807) : wrap64 x = x := by
  unfold wrap64
  omega
theorem w64_succ {n m : Nat} (h : n < m) (hm : m ≤ 9223372036854775807) : wrap64 ((n : Int) + 1) = ((n + 1 : Nat) : Int) := by
  unfold wrap64
  omega
theorem rd_nat (l : List Int) (n : Nat) : rd l (n : Int) = l.getD n 0 := by
  unfold rd
  rw [Int.toNat_natCast]
theorem take_set_succ {α : Type} (d : α) {x0 x3 : List α} {n : Nat} (h : n < x0.length) (hl : x3.length = x0.length) (ht : x3.take n = x0.take n) : (x3.set n (x0.getD n d)).take (n + 1) = x0.take (n + 1) := by
  apply List.ext_getElem?
  intro i
  simp only [List.getElem?_take, List.getElem?_set]
  by_cases hi : i < n + 1
  · rw [if_pos hi, if_pos hi]
    by_cases he : n = i
    · subst he
      rw [if_pos rfl, if_pos (by omega), List.getD_eq_getElem?_getD, List.getElem?_eq_getElem h]
      rfl
    · rw [if_neg he]
      have := congrArg (fun l => l[i]?) ht
      simpa only [List.getElem?_take, if_pos (show i < n by omega)] using this
  · rw [if_neg hi, if_neg hi]
theorem u8_bounds {l : List Int} (h : ∀ x ∈ l, 0 ≤ x ∧ x ≤ 255) (n : Nat) : 0 ≤ l.getD n 0 ∧ l.getD n 0 ≤ 255 := by
  rw [List.getD_eq_getElem?_getD]
  cases e : l[n]? with
  | none => simp
  | some x =>
    exact h x (List.mem_of_getElem? e)
theorem getD_map {α β : Type} (c : α → β) (l : List α) (n : Nat) (d : α) : (l.map c).getD n (c d) = c (l.getD n d) := by
  simp only [List.getD_eq_getElem?_getD, List.getElem?_map]
  cases l[n]? <;> rfl
/-- It ends, with true just where p holds. -/
def EvB (g : Nat → Option Bool) (p : Prop) : Prop := ∃ b, Ev g b ∧ (b = true ↔ p)
theorem EvB.iff {g : Nat → Option Bool} {p q : Prop} (h : EvB g p) (h' : p ↔ q) : EvB g q := by
  obtain ⟨b, hb, ib⟩ := h
  exact ⟨b, hb, ib.trans h'⟩
theorem EvB.dec {c : Prop} [Decidable c] : EvB (fun _ => some (decide c)) c := ⟨decide c, Ev.now _, decide_eq_true_iff⟩
theorem EvB.ite {c : Prop} [Decidable c] {A : Nat → Option Bool} {p : Prop} (h : EvB A p) : EvB (fun n => if c then A n else some false) (c ∧ p) := by
  obtain ⟨b, hb, ib⟩ := h
  by_cases hc : c
  · exact ⟨b, ev_pos hc hb, ⟨fun h => ⟨hc, ib.1 h⟩, fun h => ib.2 h.2⟩⟩
  · exact ⟨false, ev_neg hc (Ev.now _), ⟨fun h => (Bool.false_ne_true h).elim, fun h => absurd h.1 hc⟩⟩
theorem EvB.ite_not {c : Prop} [Decidable c] {A : Nat → Option Bool} {p : Prop} (h : EvB A p) : EvB (fun n => if c then some false else A n) (¬ c ∧ p) := by
  obtain ⟨b, hb, ib⟩ := h
  by_cases hc : c
  · exact ⟨false, ev_pos hc (Ev.now _), ⟨fun h => (Bool.false_ne_true h).elim, fun h => absurd hc h.1⟩⟩
  · exact ⟨b, ev_neg hc hb, ⟨fun h => ⟨hc, ib.1 h⟩, fun h => ib.2 h.2⟩⟩
theorem EvB.bind {g A : Nat → Option Bool} {p q : Prop} (h : EvB g p) (h' : EvB A q) : EvB (fun n => (g n).bind fun t => if t = true then A n else some false) (p ∧ q) := by
  obtain ⟨b, hb, ib⟩ := h
  obtain ⟨c, hc, ic⟩ := h'
  cases b with
  | true => exact ⟨c, Ev.bind hb (ev_pos rfl hc), ⟨fun h => ⟨ib.1 rfl, ic.1 h⟩, fun h => ic.2 h.2⟩⟩
  | false => exact ⟨false, Ev.bind hb (ev_neg (by decide) (Ev.now _)), ⟨fun h => (Bool.false_ne_true h).elim, fun h => absurd (ib.2 h.1) (by decide)⟩⟩
theorem EvB.last {g : Nat → Option Bool} {p : Prop} (h : EvB g p) : EvB (fun n => (g n).bind fun t => some t) p := by
  obtain ⟨b, hb, ib⟩ := h
  exact ⟨b, Ev.bind hb (Ev.now _), ib⟩
theorem EvB.same {g g' : Nat → Option Bool} {p : Prop} (h : EvB g p) (h' : EvB g' p) : ∃ b, Ev g b ∧ Ev g' b ∧ (b = true ↔ p) := by
  obtain ⟨b, hb, ib⟩ := h
  obtain ⟨c, hc, ic⟩ := h'
  obtain rfl : c = b := bool_eq_of_iff ic ib
  exact ⟨c, hb, hc, ib⟩
theorem EvB.bindE {g A B : Nat → Option Bool} {p q : Prop} (hB : Ev B false) (h : EvB g p) (h' : EvB A q) : EvB (fun n => (g n).bind fun t => if t = true then A n else B n) (p ∧ q) := by
  obtain ⟨b, hb, ib⟩ := h
  obtain ⟨c, hc, ic⟩ := h'
  cases b with
  | true => exact ⟨c, Ev.bind hb (ev_pos rfl hc), ⟨fun h => ⟨ib.1 rfl, ic.1 h⟩, fun h => ic.2 h.2⟩⟩
  | false => exact ⟨false, Ev.bind hb (ev_neg (by decide) hB), ⟨fun h => (Bool.false_ne_true h).elim, fun h => absurd (ib.2 h.1) (by decide)⟩⟩
theorem EvB.iteE {c : Prop} [Decidable c] {A B : Nat → Option Bool} {p : Prop} (hB : Ev B false) (h : EvB A p) : EvB (fun n => if c then A n else B n) (c ∧ p) := by
  obtain ⟨b, hb, ib⟩ := h
  by_cases hc : c
  · exact ⟨b, ev_pos hc hb, ⟨fun h => ⟨hc, ib.1 h⟩, fun h => ib.2 h.2⟩⟩
  · exact ⟨false, ev_neg hc hB, ⟨fun h => (Bool.false_ne_true h).elim, fun h => absurd h.1 hc⟩⟩
theorem EvB.bindN {g : Nat → Option Bool} {J : Nat → Bool → Option Bool} {p q : Prop} (hB : Ev (fun n => J n true) false) (h : EvB g p) (h' : EvB (fun n => J n false) q) : EvB (fun n => (g n).bind fun t => J n (!t)) (p ∧ q) := by
  obtain ⟨b, hb, ib⟩ := h
  obtain ⟨c, hc, ic⟩ := h'
  cases b with
  | true => exact ⟨c, Ev.bind hb hc, ⟨fun h => ⟨ib.1 rfl, ic.1 h⟩, fun h => ic.2 h.2⟩⟩
  | false => exact ⟨false, Ev.bind hb hB, ⟨fun h => (Bool.false_ne_true h).elim, fun h => absurd (ib.2 h.1) (by decide)⟩⟩
theorem EvB.succ {g : Nat → Option Bool} {p : Prop} (h : EvB (fun k => g (k + 1)) p) : EvB g p := by
  obtain ⟨b, hb, ib⟩ := h
  exact ⟨b, ev_succ hb, ib⟩
theorem EvB.true_ {p : Prop} (h : p) : EvB (fun _ => some true) p := ⟨true, Ev.now _, ⟨fun _ => h, fun _ => rfl⟩⟩
theorem EvB.false_ {p : Prop} (h : ¬ p) : EvB (fun _ => some false) p := ⟨false, Ev.now _, ⟨fun e => (Bool.false_ne_true e).elim, fun e => absurd e h⟩⟩
theorem EvB.pos {c : Prop} [Decidable c] {A B : Nat → Option Bool} {p : Prop} (hc : c) (h : EvB A p) : EvB (fun n => if c then A n else B n) p := by
  simpa only [if_pos hc] using h
theorem EvB.neg {c : Prop} [Decidable c] {A B : Nat → Option Bool} {p : Prop} (hc : ¬ c) (h : EvB B p) : EvB (fun n => if c then A n else B n) p := by
  simpa only [if_neg hc] using h

theorem szIntS_eq (l : List Int) (m : Int) (h0 : 0 ≤ m) (h1 : m ≤ 1048576) (hl : l.length ≤ 9223372036854775807) : laws_szIntS.f l m = some (if m - l.length < 0 then -1 else m - l.length) := by
  unfold laws_szIntS.f
  rw [w64 (x := m - (l.length : Int)) (by omega) (by omega)]
  by_cases h : m - (l.length : Int) < 0
  · rw [if_pos h, if_pos h]
  · rw [if_neg h, if_neg h]

theorem toIntS_loop (x0 : List Int) (hx : x0.length ≤ 9223372036854775807) : ∀ (d n : Nat) (x3 : List Int), n + d = x0.length → x3.length = x0.length → x3.take n = x0.take n → Ev (fun k => laws_toIntS.l0 k x0 x3 (n : Int)) x0 := by
  intro d
  induction d with
  | zero =>
    intro n x3 hn hl ht
    refine ev_succ ?_
    simp only [laws_toIntS.l0]
    refine ev_neg (by omega) ?_
    have e : x3 = x0 := by rw [← List.take_of_length_le (l := x3) (i := n) (by omega), ht, List.take_of_length_le (by omega)]
    rw [e]
    exact Ev.now _
  | succ d ih =>
    intro n x3 hn hl ht
    refine ev_succ ?_
    simp only [laws_toIntS.l0]
    refine ev_pos (by omega) (ev_pos (by omega) (ev_pos (by omega) ?_))
    rw [rd_nat, Int.toNat_natCast, w64_succ (m := x0.length) (by omega) hx]
    exact ih (n + 1) _ (by omega) (by simpa using hl) (take_set_succ 0 (by omega) hl ht)
theorem toIntS_ev (l : List Int) (h : l.length ≤ 35184372088832) : Ev (fun k => laws_toIntS.f k l) l := by
  unfold laws_toIntS.f
  refine ev_pos (by omega) (ev_pos (by omega) ?_)
  exact toIntS_loop l (by omega) l.length 0 _ (by omega) (by simp) (by simp)

theorem eqIntS_loop (x0 : List Int) (hx : x0.length ≤ 9223372036854775807) : ∀ (d n : Nat), n + d = x0.length → Ev (fun k => laws_eqIntS.l0 k x0 x0 (n : Int)) true := by
  intro d
  induction d with
  | zero =>
    intro n hn
    refine ev_succ ?_
    simp only [laws_eqIntS.l0]
    exact ev_neg (by omega) (Ev.now _)
  | succ d ih =>
    intro n hn
    refine ev_succ ?_
    simp only [laws_eqIntS.l0]
    refine ev_pos (by omega) (ev_pos (by omega) (ev_pos (by omega) (ev_pos (by trivial) ?_)))
    rw [w64_succ (m := x0.length) (by omega) hx]
    exact ih (n + 1) (by omega)
theorem eqIntS_ev (l : List Int) (h : l.length ≤ 9223372036854775807) : Ev (fun k => laws_eqIntS.f k l l) true := by
  unfold laws_eqIntS.f
  exact ev_pos (by trivial) (eqIntS_loop l h l.length 0 (by omega))

theorem spec_in_eq (a b c : Int) : spec_l1In.f a b c = some (decide (b ≤ a ∧ a ≤ c)) := by
  unfold spec_l1In.f
  split
  · congr 1
    rw [decide_eq_decide]
    omega
  · congr 1
    symm
    rw [decide_eq_false_iff_not]
    omega
theorem spec_in_evB (a b c : Int) : EvB (fun _ => spec_l1In.f a b c) (b ≤ a ∧ a ≤ c) := by
  rw [spec_in_eq]
  exact EvB.dec

theorem impl_in_eq (a b c : Int) : impl_in.f a b c = some (decide (b ≤ a ∧ a ≤ c)) := by
  unfold impl_in.f
  split
  · congr 1
    rw [decide_eq_decide]
    omega
  · congr 1
    symm
    rw [decide_eq_false_iff_not]
    omega
theorem impl_in_evB (a b c : Int) : EvB (fun _ => impl_in.f a b c) (b ≤ a ∧ a ≤ c) := by
  rw [impl_in_eq]
  exact EvB.dec

def AllIn (l : List Int) (lo hi : Int) : Prop := ∀ n, n < l.length → lo ≤ l.getD n 0 ∧ l.getD n 0 ≤ hi
def Rise (l : List Int) : Prop := ∀ n, n + 1 < l.length → l.getD n 0 < l.getD (n + 1) 0

theorem spec_all_loop (l : List Int) (lo hi : Int) (hx : l.length ≤ 9223372036854775807) : ∀ (d n : Nat), n + d = l.length → (∀ m, m < n → lo ≤ l.getD m 0 ∧ l.getD m 0 ≤ hi) → ∃ b, Ev (fun k => spec_l1All.l0 k l lo hi (n : Int)) b ∧ (b = true ↔ AllIn l lo hi) := by
  intro d
  induction d with
  | zero =>
    intro n hn hm
    refine ⟨true, ?_, ⟨fun _ m h => hm m (by omega), fun _ => rfl⟩⟩
    refine ev_succ ?_
    simp only [spec_l1All.l0]
    exact ev_neg (by omega) (Ev.now _)
  | succ d ih =>
    intro n hn hm
    by_cases h : lo ≤ l.getD n 0 ∧ l.getD n 0 ≤ hi
    · obtain ⟨b, hb, hiff⟩ := ih (n + 1) (by omega) (fun m hm' => by
        by_cases e : m = n
        · subst e; exact h
        · exact hm m (by omega))
      refine ⟨b, ?_, hiff⟩
      refine ev_succ ?_
      simp only [spec_l1All.l0, spec_in_eq, Option.bind_some]
      refine ev_pos (by omega) (ev_pos (by omega) (ev_pos (by rw [rd_nat]; simpa using h) ?_))
      rw [w64_succ (m := l.length) (by omega) hx]
      exact hb
    · refine ⟨false, ?_, ⟨fun h' => (Bool.false_ne_true h').elim, fun h' => absurd (h' n (by omega)) h⟩⟩
      refine ev_succ ?_
      simp only [spec_l1All.l0, spec_in_eq, Option.bind_some]
      exact ev_pos (by omega) (ev_pos (by omega) (ev_neg (by rw [rd_nat]; simpa using h) (Ev.now _)))
theorem spec_all_ev (l : List Int) (lo hi : Int) (hx : l.length ≤ 9223372036854775807) : ∃ b, Ev (fun k => spec_l1All.f k l lo hi) b ∧ (b = true ↔ AllIn l lo hi) := by
  unfold spec_l1All.f
  exact spec_all_loop l lo hi hx l.length 0 (by omega) (fun m h => by omega)

theorem impl_all_loop (l : List Int) (lo hi : Int) (hx : l.length ≤ 9223372036854775807) : ∀ (d n : Nat), n + d = l.length → (∀ m, m < n → lo ≤ l.getD m 0 ∧ l.getD m 0 ≤ hi) → ∃ b, Ev (fun k => impl_allIn.l0 k lo hi l (l.length : Int) (n : Int)) b ∧ (b = true ↔ AllIn l lo hi) := by
  intro d
  induction d with
  | zero =>
    intro n hn hm
    refine ⟨true, ?_, ⟨fun _ m h => hm m (by omega), fun _ => rfl⟩⟩
    refine ev_succ ?_
    simp only [impl_allIn.l0]
    exact ev_neg (by omega) (Ev.now _)
  | succ d ih =>
    intro n hn hm
    by_cases h : lo ≤ l.getD n 0 ∧ l.getD n 0 ≤ hi
    · obtain ⟨b, hb, hiff⟩ := ih (n + 1) (by omega) (fun m hm' => by
        by_cases e : m = n
        · subst e; exact h
        · exact hm m (by omega))
      refine ⟨b, ?_, hiff⟩
      refine ev_succ ?_
      simp only [impl_allIn.l0, impl_in_eq, Option.bind_some]
      refine ev_pos (by omega) (ev_pos (by omega) (ev_pos (by omega) (ev_pos (by rw [rd_nat]; simpa using h) ?_)))
      rw [w64_succ (m := l.length) (by omega) hx]
      exact hb
    · refine ⟨false, ?_, ⟨fun h' => (Bool.false_ne_true h').elim, fun h' => absurd (h' n (by omega)) h⟩⟩
      refine ev_succ ?_
      simp only [impl_allIn.l0, impl_in_eq, Option.bind_some]
      exact ev_pos (by omega) (ev_pos (by omega) (ev_pos (by omega) (ev_neg (by rw [rd_nat]; simpa using h) (Ev.now _))))
theorem impl_all_ev (l : List Int) (lo hi : Int) (hx : l.length ≤ 9223372036854775807) : ∃ b, Ev (fun k => impl_allIn.f k l lo hi) b ∧ (b = true ↔ AllIn l lo hi) := by
  unfold impl_allIn.f
  exact impl_all_loop l lo hi hx l.length 0 (by omega) (fun m h => by omega)

theorem spec_rise_loop (l : List Int) (hx : l.length ≤ 9223372036854775807) : ∀ (d n : Nat), 1 ≤ n → l.length ≤ n + d → (∀ m, m + 1 < n → l.getD m 0 < l.getD (m + 1) 0) → ∃ b, Ev (fun k => spec_l1Rise.l0 k l (n : Int)) b ∧ (b = true ↔ Rise l) := by
  intro d
  induction d with
  | zero =>
    intro n h1 hn hm
    refine ⟨true, ?_, ⟨fun _ m h => hm m (by omega), fun _ => rfl⟩⟩
    refine ev_succ ?_
    simp only [spec_l1Rise.l0]
    exact ev_neg (by omega) (Ev.now _)
  | succ d ih =>
    intro n h1 hn hm
    by_cases hlt : n < l.length
    · have e1 : wrap64 ((n : Int) - 1) = ((n - 1 : Nat) : Int) := by rw [w64 (by omega) (by omega)]; omega
      by_cases h : l.getD (n - 1) 0 < l.getD n 0
      · obtain ⟨b, hb, hiff⟩ := ih (n + 1) (by omega) (by omega) (fun m hm' => by
          by_cases e : m + 1 = n
          · have : m = n - 1 := by omega
            subst this
            rw [e]; exact h
          · exact hm m (by omega))
        refine ⟨b, ?_, hiff⟩
        refine ev_succ ?_
        simp only [spec_l1Rise.l0, e1, rd_nat]
        refine ev_pos (by omega) (ev_pos (by omega) (ev_pos (by omega) (ev_pos (by omega) (ev_neg (by omega) ?_))))
        rw [w64_succ (m := l.length) (by omega) hx]
        exact hb
      · refine ⟨false, ?_, ⟨fun h' => (Bool.false_ne_true h').elim, fun h' => absurd (by have := h' (n - 1) (by omega); rwa [show n - 1 + 1 = n by omega] at this) h⟩⟩
        refine ev_succ ?_
        simp only [spec_l1Rise.l0, e1, rd_nat]
        exact ev_pos (by omega) (ev_pos (by omega) (ev_pos (by omega) (ev_pos (by omega) (ev_pos (by omega) (Ev.now _)))))
    · refine ⟨true, ?_, ⟨fun _ m h => hm m (by omega), fun _ => rfl⟩⟩
      refine ev_succ ?_
      simp only [spec_l1Rise.l0]
      exact ev_neg (by omega) (Ev.now _)
theorem spec_rise_ev (l : List Int) (hx : l.length ≤ 9223372036854775807) : ∃ b, Ev (fun k => spec_l1Rise.f k l) b ∧ (b = true ↔ Rise l) := by
  unfold spec_l1Rise.f
  exact spec_rise_loop l hx l.length 1 (by omega) (by omega) (fun m h => by omega)

theorem impl_asc_loop (l : List Int) (lo hi : Int) (hx : l.length ≤ 9223372036854775807) : ∀ (d n : Nat), n + d = l.length → (∀ m, m < n → lo ≤ l.getD m 0 ∧ l.getD m 0 ≤ hi) → (∀ m, m + 1 < n → l.getD m 0 < l.getD (m + 1) 0) → ∃ b, Ev (fun k => impl_ascends.l0 k l lo hi l (l.length : Int) (n : Int)) b ∧ (b = true ↔ AllIn l lo hi ∧ Rise l) := by
  intro d
  induction d with
  | zero =>
    intro n hn hm hr
    refine ⟨true, ?_, ⟨fun _ => ⟨fun m h => hm m (by omega), fun m h => hr m (by omega)⟩, fun _ => rfl⟩⟩
    refine ev_succ ?_
    simp only [impl_ascends.l0]
    exact ev_neg (by omega) (Ev.now _)
  | succ d ih =>
    intro n hn hm hr
    by_cases h : lo ≤ l.getD n 0 ∧ l.getD n 0 ≤ hi
    · have hm1 : ∀ m, m < n + 1 → lo ≤ l.getD m 0 ∧ l.getD m 0 ≤ hi := fun m hm' => by
        by_cases e : m = n
        · subst e; exact h
        · exact hm m (by omega)
      by_cases h0 : n = 0
      · obtain ⟨b, hb, hiff⟩ := ih (n + 1) (by omega) hm1 (fun m hm' => by omega)
        refine ⟨b, ?_, hiff⟩
        refine ev_succ ?_
        simp only [impl_ascends.l0, impl_in_eq, Option.bind_some]
        refine ev_pos (by omega) (ev_pos (by omega) (ev_pos (by omega) (ev_pos (by rw [rd_nat]; simpa using h) (ev_neg (by omega) ?_))))
        rw [w64_succ (m := l.length) (by omega) hx]
        exact hb
      · have e1 : wrap64 ((n : Int) - 1) = ((n - 1 : Nat) : Int) := by rw [w64 (by omega) (by omega)]; omega
        by_cases h2 : l.getD (n - 1) 0 < l.getD n 0
        · obtain ⟨b, hb, hiff⟩ := ih (n + 1) (by omega) hm1 (fun m hm' => by
            by_cases e : m + 1 = n
            · have : m = n - 1 := by omega
              subst this
              rw [e]; exact h2
            · exact hr m (by omega))
          refine ⟨b, ?_, hiff⟩
          refine ev_succ ?_
          simp only [impl_ascends.l0, impl_in_eq, Option.bind_some, e1, rd_nat]
          refine ev_pos (by omega) (ev_pos (by omega) (ev_pos (by omega) (ev_pos (by simpa using h) (ev_pos (by omega) (ev_pos (by omega) (ev_pos (by omega) (ev_neg (by omega) ?_)))))))
          rw [w64_succ (m := l.length) (by omega) hx]
          exact hb
        · refine ⟨false, ?_, ⟨fun h' => (Bool.false_ne_true h').elim, fun h' => absurd (by have := h'.2 (n - 1) (by omega); rwa [show n - 1 + 1 = n by omega] at this) h2⟩⟩
          refine ev_succ ?_
          simp only [impl_ascends.l0, impl_in_eq, Option.bind_some, e1, rd_nat]
          exact ev_pos (by omega) (ev_pos (by omega) (ev_pos (by omega) (ev_pos (by simpa using h) (ev_pos (by omega) (ev_pos (by omega) (ev_pos (by omega) (ev_pos (by omega) (Ev.now _))))))))
    · refine ⟨false, ?_, ⟨fun h' => (Bool.false_ne_true h').elim, fun h' => absurd (h'.1 n (by omega)) h⟩⟩
      refine ev_succ ?_
      simp only [impl_ascends.l0, impl_in_eq, Option.bind_some]
      exact ev_pos (by omega) (ev_pos (by omega) (ev_pos (by omega) (ev_neg (by rw [rd_nat]; simpa using h) (Ev.now _))))
theorem impl_asc_ev (l : List Int) (lo hi : Int) (hx : l.length ≤ 9223372036854775807) : ∃ b, Ev (fun k => impl_ascends.f k l lo hi) b ∧ (b = true ↔ AllIn l lo hi ∧ Rise l) := by
  unfold impl_ascends.f
  exact impl_asc_loop l lo hi hx l.length 0 (by omega) (fun m h => by omega) (fun m h => by omega)

def Under (F A : List Int) : Prop := ∀ n, n < F.length → F.getD n 0 ≤ A.getD n 0
def EnvP (M F A : List Int) : Prop := (2 ≤ M.length ∧ M.length ≤ 10) ∧ F.length = M.length ∧ A.length = M.length ∧ Rise M ∧ AllIn M 0 400000 ∧ AllIn F (-1000) 1000 ∧ AllIn A (-1000) 1000 ∧ Under F A
theorem szEnvelope_ok (X Y Z : List Int) (hx : X.length ≤ 9223372036854775807) (hy : Y.length ≤ 9223372036854775807) (hz : Z.length ≤ 9223372036854775807) (m : Int) (h0 : 0 ≤ m) (h1 : m ≤ 1048576) : ∃ t, laws_szEnvelope.f X Y Z m = some t ∧ t ≤ m ∧ (0 ≤ t → X.length + Y.length + Z.length ≤ 1048576) := by
  unfold laws_szEnvelope.f
  rw [szIntS_eq X _ (by omega) (by omega) hx]
  simp only [Option.bind_some]
  by_cases h : m - X.length < 0
  · rw [if_pos h, if_pos (by omega)]; exact ⟨-1, rfl, by omega, by omega⟩
  · rw [if_neg h, if_neg h, szIntS_eq Y _ (by omega) (by omega) hy]
    simp only [Option.bind_some]
    by_cases h' : m - X.length - Y.length < 0
    · rw [if_pos h', if_pos (by omega)]; exact ⟨-1, rfl, by omega, by omega⟩
    · rw [if_neg h', if_neg h', szIntS_eq Z _ (by omega) (by omega) hz]
      simp only [Option.bind_some]
      by_cases h2 : m - X.length - Y.length - Z.length < 0
      · rw [if_pos h2, if_pos (by omega)]; exact ⟨-1, rfl, by omega, by omega⟩
      · rw [if_neg h2, if_neg h2]; exact ⟨_, rfl, by omega, by omega⟩
theorem toEnvelope_ev (X Y Z : List Int) (h : X.length + Y.length + Z.length ≤ 1048576) : Ev (fun k => laws_toEnvelope.f k X Y Z) (X, Y, Z) := by
  unfold laws_toEnvelope.f
  exact Ev.bind (toIntS_ev X (by omega)) (Ev.bind (toIntS_ev Y (by omega)) (Ev.bind (toIntS_ev Z (by omega)) (Ev.now _)))
theorem eqEnvelope_ev (X Y Z : List Int) (h : X.length + Y.length + Z.length ≤ 1048576) : Ev (fun k => laws_eqEnvelope.f k X Y Z X Y Z) true := by
  unfold laws_eqEnvelope.f
  exact Ev.bind (eqIntS_ev X (by omega)) (ev_pos (by trivial) (Ev.bind (eqIntS_ev Y (by omega)) (ev_pos (by trivial) (Ev.bind (eqIntS_ev Z (by omega)) (ev_pos (by trivial) (Ev.now _))))))
theorem spec_env_loop (M F A : List Int) (hF : F.length = M.length) (hA : A.length = M.length) (hx : M.length ≤ 1000) : ∀ (d n : Nat), n + d = M.length → (∀ m, m < n → F.getD m 0 ≤ A.getD m 0) → EvB (fun k => spec_EnvelopeOk.l0 k (M.length : Int) (n : Int) M F A) (Under F A) := by
  intro d
  induction d with
  | zero =>
    intro n hn hm
    refine EvB.succ ?_
    simp only [spec_EnvelopeOk.l0]
    exact EvB.neg (by omega) (EvB.true_ (fun m h => hm m (by omega)))
  | succ d ih =>
    intro n hn hm
    refine EvB.succ ?_
    simp only [spec_EnvelopeOk.l0, rd_nat]
    refine EvB.pos (by omega) (EvB.pos (by omega) (EvB.pos (by omega) (EvB.pos (by omega) ?_)))
    by_cases h : F.getD n 0 > A.getD n 0
    · exact EvB.pos h (EvB.false_ (fun h' => by have := h' n (by omega); omega))
    · refine EvB.neg h ?_
      rw [w64_succ (m := M.length) (n := n) (by omega) (by omega)]
      refine ih (n + 1) (by omega) (fun m hm' => ?_)
      by_cases e : m = n
      · subst e; omega
      · exact hm m (by omega)
theorem impl_env_loop (M F A : List Int) (hF : F.length = M.length) (hA : A.length = M.length) (hx : M.length ≤ 1000) : ∀ (d n : Nat), n + d = M.length → (∀ m, m < n → F.getD m 0 ≤ A.getD m 0) → EvB (fun k => impl_EnvelopeOk.l0 k F (F.length : Int) (n : Int) M F A) (Under F A ∧ AllIn F (-1000) 1000 ∧ AllIn A (-1000) 1000) := by
  intro d
  induction d with
  | zero =>
    intro n hn hm
    refine EvB.succ ?_
    simp only [impl_EnvelopeOk.l0]
    refine EvB.neg (by omega) ((EvB.bind (impl_all_ev F _ _ (by omega)) (EvB.last (impl_all_ev A _ _ (by omega)))).iff ?_)
    exact ⟨fun h => ⟨fun m h' => hm m (by omega), h⟩, fun h => h.2⟩
  | succ d ih =>
    intro n hn hm
    refine EvB.succ ?_
    simp only [impl_EnvelopeOk.l0, rd_nat]
    refine EvB.pos (by omega) (EvB.pos (by omega) (EvB.pos (by omega) (EvB.pos (by omega) ?_)))
    by_cases h : F.getD n 0 > A.getD n 0
    · exact EvB.pos h (EvB.false_ (fun h' => by have := h'.1 n (by omega); omega))
    · refine EvB.neg h ?_
      rw [w64_succ (m := M.length) (n := n) (by omega) (by omega)]
      refine ih (n + 1) (by omega) (fun m hm' => ?_)
      by_cases e : m = n
      · subst e; omega
      · exact hm m (by omega)
theorem spec_env_ev (M F A : List Int) (h : M.length + F.length + A.length ≤ 1048576) : EvB (fun k => spec_EnvelopeOk.f k M F A) (EnvP M F A) := by
  have bad : Ev (fun k => spec_EnvelopeOk.j0 k (M.length : Int) true M F A) false := by
    refine ev_succ ?_
    simp only [spec_EnvelopeOk.j0]
    exact ev_pos (by trivial) (Ev.now _)
  by_cases hs : (2 ≤ M.length ∧ M.length ≤ 10) ∧ F.length = M.length ∧ A.length = M.length
  · have good : EvB (fun k => spec_EnvelopeOk.j0 k (M.length : Int) false M F A) (Under F A) := by
      refine EvB.succ ?_
      simp only [spec_EnvelopeOk.j0]
      exact EvB.neg (by decide) (spec_env_loop M F A hs.2.1 hs.2.2 (by omega) M.length 0 (by omega) (fun m h => by omega))
    unfold spec_EnvelopeOk.f
    refine (EvB.bindE bad (spec_in_evB _ _ _) (EvB.iteE bad (EvB.iteE bad (EvB.bindE bad (spec_rise_ev M (by omega)) (EvB.bindE bad (spec_all_ev M _ _ (by omega)) (EvB.bindE bad (spec_all_ev F _ _ (by omega)) (EvB.bindN (J := fun k b => spec_EnvelopeOk.j0 k (M.length : Int) b M F A) bad (spec_all_ev A _ _ (by omega)) good))))))).iff ?_
    unfold EnvP
    constructor
    · rintro ⟨h1, h2, h3, h4, h5, h6, h7, h8⟩; exact ⟨hs.1, hs.2.1, hs.2.2, h4, h5, h6, h7, h8⟩
    · rintro ⟨h1, h2, h3, h4, h5, h6, h7, h8⟩; exact ⟨by omega, by omega, by omega, h4, h5, h6, h7, h8⟩
  · refine ⟨false, ?_, ⟨fun e => (Bool.false_ne_true e).elim, fun e => absurd ⟨e.1, e.2.1, e.2.2.1⟩ hs⟩⟩
    simp only [spec_EnvelopeOk.f, spec_in_eq, Option.bind_some]
    by_cases h1 : 2 ≤ (M.length : Int) ∧ (M.length : Int) ≤ 10
    · simp only [decide_eq_true h1]
      by_cases h2 : (F.length : Int) = (M.length : Int)
      · by_cases h3 : (A.length : Int) = (M.length : Int)
        · exact absurd ⟨by omega, by omega, by omega⟩ hs
        · exact ev_pos (by trivial) (ev_pos h2 (ev_neg h3 bad))
      · exact ev_pos (by trivial) (ev_neg h2 bad)
    · simp only [decide_eq_false h1]
      exact ev_neg (by decide) bad
theorem impl_env_ev (M F A : List Int) (h : M.length + F.length + A.length ≤ 1048576) : EvB (fun k => impl_EnvelopeOk.f k M F A) (EnvP M F A) := by
  have bad : Ev (fun k => impl_EnvelopeOk.j0 k true M F A) false := by
    refine ev_succ ?_
    simp only [impl_EnvelopeOk.j0]
    exact ev_pos (by trivial) (Ev.now _)
  by_cases hs : (2 ≤ M.length ∧ M.length ≤ 10) ∧ F.length = M.length ∧ A.length = M.length
  · have good : EvB (fun k => impl_EnvelopeOk.j0 k false M F A) (Under F A ∧ AllIn F (-1000) 1000 ∧ AllIn A (-1000) 1000) := by
      refine EvB.succ ?_
      simp only [impl_EnvelopeOk.j0]
      exact EvB.neg (by decide) (impl_env_loop M F A hs.2.1 hs.2.2 (by omega) M.length 0 (by omega) (fun m h => by omega))
    unfold impl_EnvelopeOk.f
    refine (EvB.bindE bad (impl_in_evB _ _ _) (EvB.iteE bad (EvB.iteE bad (EvB.bindN (J := fun k b => impl_EnvelopeOk.j0 k b M F A) bad (impl_asc_ev M _ _ (by omega)) good)))).iff ?_
    unfold EnvP
    constructor
    · rintro ⟨h1, h2, h3, ⟨h4, h5⟩, h6, h7, h8⟩; exact ⟨hs.1, hs.2.1, hs.2.2, h5, h4, h7, h8, h6⟩
    · rintro ⟨h1, h2, h3, h4, h5, h6, h7, h8⟩; exact ⟨by omega, by omega, by omega, ⟨h5, h4⟩, h8, h6, h7⟩
  · refine ⟨false, ?_, ⟨fun e => (Bool.false_ne_true e).elim, fun e => absurd ⟨e.1, e.2.1, e.2.2.1⟩ hs⟩⟩
    simp only [impl_EnvelopeOk.f, impl_in_eq, Option.bind_some]
    by_cases h1 : 2 ≤ (M.length : Int) ∧ (M.length : Int) ≤ 10
    · simp only [decide_eq_true h1]
      by_cases h2 : (F.length : Int) = (M.length : Int)
      · by_cases h3 : (A.length : Int) = (M.length : Int)
        · exact absurd ⟨by omega, by omega, by omega⟩ hs
        · exact ev_pos (by trivial) (ev_pos h2 (ev_neg h3 bad))
      · exact ev_pos (by trivial) (ev_neg h2 bad)
    · simp only [decide_eq_false h1]
      exact ev_neg (by decide) bad

theorem piece_loop (X : List Int) (x : Int) (hx : X.length ≤ 1048576) : ∀ (d n : Nat), n + 2 + d = X.length → ∃ r : Nat, r + 1 < X.length ∧ Ev (fun k => spec_l1Low.l0 k X x (n : Int)) (r : Int) ∧ Ev (fun k => impl_piece.l0 k X x (n : Int)) (r : Int) := by
  intro d
  induction d with
  | zero =>
    intro n hn
    have e : wrap64 ((n : Int) + 2) = (n : Int) + 2 := w64 (by omega) (by omega)
    refine ⟨n, by omega, ev_succ ?_, ev_succ ?_⟩
    · simp only [spec_l1Low.l0, e]
      exact ev_neg (by omega) (Ev.now _)
    · simp only [impl_piece.l0, e]
      exact ev_neg (by omega) (Ev.now _)
  | succ d ih =>
    intro n hn
    have e : wrap64 ((n : Int) + 2) = (n : Int) + 2 := w64 (by omega) (by omega)
    have e1 := w64_succ (m := X.length) (n := n) (by omega) (by omega)
    by_cases h : rd X ((n + 1 : Nat) : Int) ≤ x
    · obtain ⟨r, h0, h1, h2⟩ := ih (n + 1) (by omega)
      refine ⟨r, h0, ev_succ ?_, ev_succ ?_⟩
      · simp only [spec_l1Low.l0, e, e1]
        exact ev_pos (by omega) (ev_pos (by omega) (ev_pos (by omega) (ev_pos h h1)))
      · simp only [impl_piece.l0, e, e1]
        exact ev_pos (by omega) (ev_pos (by omega) (ev_pos (by omega) (ev_pos h h2)))
    · refine ⟨n, by omega, ev_succ ?_, ev_succ ?_⟩
      · simp only [spec_l1Low.l0, e, e1]
        exact ev_pos (by omega) (ev_pos (by omega) (ev_pos (by omega) (ev_neg h (Ev.now _))))
      · simp only [impl_piece.l0, e, e1]
        exact ev_pos (by omega) (ev_pos (by omega) (ev_pos (by omega) (ev_neg h (Ev.now _))))
theorem piece_both (X : List Int) (x : Int) (h2 : 2 ≤ X.length) (hx : X.length ≤ 1048576) : ∃ r : Nat, r + 1 < X.length ∧ Ev (fun k => spec_l1Low.f k X x) (r : Int) ∧ Ev (fun k => impl_piece.f k X x) (r : Int) := by
  unfold spec_l1Low.f impl_piece.f
  exact piece_loop X x hx (X.length - 2) 0 (by omega)

def num (X Y : List Int) (x : Int) (i : Nat) : Int := wrap64 ((wrap64 ((Y.getD i 0) * (wrap64 ((X.getD (i + 1) 0) - (X.getD i 0))))) + (wrap64 ((wrap64 ((Y.getD (i + 1) 0) - (Y.getD i 0))) * (wrap64 (x - (X.getD i 0))))))
theorem last_nat {T : List Int} (h : 1 ≤ T.length) (h' : T.length ≤ 1048576) : wrap64 ((T.length : Int) - 1) = ((T.length - 1 : Nat) : Int) := by
  rw [w64 (by omega) (by omega)]
  omega
theorem le_mx (a b c : Int) : mx a b ≤ c ↔ a ≤ c ∧ b ≤ c := by
  unfold mx
  split <;> omega
theorem inside_core {M F A : List Int} (hP : EnvP M F A) (x y : Int) : ∃ b : Bool, Ev (fun k => spec_Inside.j0 k false M F A x y) b ∧ Ev (fun k => impl_inside.j0 k false M F A x y) b := by
  obtain ⟨hl, hF, hA, _⟩ := hP
  obtain ⟨i, hi, p1, p2⟩ := piece_both M x (by omega) (by omega)
  have e := w64_succ (m := M.length) (n := i) (by omega) (by omega)
  have k0 := Int.natCast_nonneg i
  have k1 : (i : Int) < (M.length : Int) := by omega
  have k2 : ((i + 1 : Nat) : Int) < (M.length : Int) := by omega
  have k3 : (i : Int) < (F.length : Int) := by omega
  have k4 : ((i + 1 : Nat) : Int) < (F.length : Int) := by omega
  have k6 : (i : Int) < (A.length : Int) := by omega
  have k7 : ((i + 1 : Nat) : Int) < (A.length : Int) := by omega
  have k5 := Int.natCast_nonneg (i + 1)
  by_cases c : wrap64 (y * wrap64 (M.getD (i + 1) 0 - M.getD i 0)) ≥ wrap64 (num M F x i * x)
  · refine ⟨decide (wrap64 (y * wrap64 (M.getD (i + 1) 0 - M.getD i 0)) ≤ wrap64 (num M A x i * x)), ev_succ ?_, ev_succ ?_⟩
    · simp only [spec_Inside.j0]
      refine ev_neg (by decide) (Ev.bind p1 ?_)
      simp only [e, rd_nat]
      exact ev_pos k5 (ev_pos k2 (ev_pos k0 (ev_pos k1 (ev_pos k3 (ev_pos k4 (ev_pos k6 (ev_pos k7 (ev_pos c (Ev.now _)))))))))
    · simp only [impl_inside.j0]
      refine ev_neg (by decide) (Ev.bind p2 ?_)
      simp only [e, rd_nat, impl_between.f, Option.bind_some]
      exact ev_pos k0 (ev_pos k1 (ev_pos k5 (ev_pos k2 (ev_pos k3 (ev_pos k4 (ev_pos k6 (ev_pos k7 (ev_pos c (Ev.now _)))))))))
  · refine ⟨false, ev_succ ?_, ev_succ ?_⟩
    · simp only [spec_Inside.j0]
      refine ev_neg (by decide) (Ev.bind p1 ?_)
      simp only [e, rd_nat]
      exact ev_pos k5 (ev_pos k2 (ev_pos k0 (ev_pos k1 (ev_pos k3 (ev_pos k4 (ev_pos k6 (ev_pos k7 (ev_neg c (Ev.now _)))))))))
    · simp only [impl_inside.j0]
      refine ev_neg (by decide) (Ev.bind p2 ?_)
      simp only [e, rd_nat, impl_between.f, Option.bind_some]
      exact ev_pos k0 (ev_pos k1 (ev_pos k5 (ev_pos k2 (ev_pos k3 (ev_pos k4 (ev_pos k6 (ev_pos k7 (ev_neg c (Ev.now _)))))))))

theorem sin (a b c : Int) : spec_l1In.f a b c = some (decide (b ≤ a ∧ a ≤ c)) := by
  unfold spec_l1In.f
  by_cases h : a ≥ b
  · rw [if_pos h]; simp [show b ≤ a from h]
  · rw [if_neg h]; simp [show ¬ b ≤ a from h]
theorem iin (a b c : Int) : impl_in.f a b c = some (decide (b ≤ a ∧ a ≤ c)) := by
  unfold impl_in.f
  by_cases h : a ≥ b
  · rw [if_pos h]; simp [show b ≤ a from h]
  · rw [if_neg h]; simp [show ¬ b ≤ a from h]
abbrev Tk := S60
abbrev Bn := S62
def okT (t : Tk) : Prop := (0 ≤ t.f0 ∧ t.f0 ≤ 10000) ∧ (-1000 ≤ t.f1 ∧ t.f1 ≤ 1000)
theorem tanks_loop (l : List Tk) (hl : l.length ≤ 1048576) : ∀ (d n : Nat), n + d = l.length → ∃ r : Int, Ev (fun k => impl_FuelTank_65.l0 k l (l.length : Int) (n : Int)) r ∧ Ev (fun k => spec_l2Tanks.l0 k l (n : Int)) (if (l.length : Int) ≤ 8 then !decide (r ≥ 0) else false) ∧ (¬ r ≥ 0 → ∀ j : Nat, n ≤ j → j < l.length → okT (rd_T60 l (j : Int))) := by
  intro d
  induction d with
  | zero =>
    intro n hn
    refine ⟨-1, ev_succ ?_, ev_succ ?_, fun _ j h1 h2 => by omega⟩
    · simp only [impl_FuelTank_65.l0]
      exact ev_neg (by omega) (Ev.now _)
    · simp only [spec_l2Tanks.l0]
      refine ev_neg (by omega) ?_
      by_cases h : (l.length : Int) ≤ 8
      · rw [if_pos h, decide_eq_true h]; exact Ev.now _
      · rw [if_neg h, decide_eq_false h]; exact Ev.now _
  | succ d ih =>
    intro n hn
    have hw := w64_succ (n := n) (m := l.length) (by omega) (by omega)
    have bad : ∀ (_ : ¬ ((0 ≤ (rd_T60 l (n : Int)).f0 ∧ (rd_T60 l (n : Int)).f0 ≤ 10000) ∧ (-1000 ≤ (rd_T60 l (n : Int)).f1 ∧ (rd_T60 l (n : Int)).f1 ≤ 1000))), ∃ r : Int, Ev (fun k => impl_FuelTank_65.l0 k l (l.length : Int) (n : Int)) r ∧ Ev (fun k => spec_l2Tanks.l0 k l (n : Int)) (if (l.length : Int) ≤ 8 then !decide (r ≥ 0) else false) ∧ (¬ r ≥ 0 → ∀ j : Nat, n ≤ j → j < l.length → okT (rd_T60 l (j : Int))) := by
      intro hb
      have e : (if (l.length : Int) ≤ 8 then !decide ((n : Int) ≥ 0) else false) = false := by
        rw [decide_eq_true (show (n : Int) ≥ 0 by omega)]; split <;> rfl
      refine ⟨(n : Int), ev_succ ?_, ev_succ ?_, fun h => absurd (by omega) h⟩
      · simp only [impl_FuelTank_65.l0, impl_tanksOk_1.f, iin, Option.bind_some]
        refine ev_pos (by omega) (ev_pos (by omega) (ev_pos (by omega) ?_))
        by_cases h1 : 0 ≤ (rd_T60 l (n : Int)).f0 ∧ (rd_T60 l (n : Int)).f0 ≤ 10000
        · have h2 : ¬ (-1000 ≤ (rd_T60 l (n : Int)).f1 ∧ (rd_T60 l (n : Int)).f1 ≤ 1000) := fun h => hb ⟨h1, h⟩
          simp only [decide_eq_true h1, decide_eq_false h2, if_true, Option.bind_some, Bool.not_false]
          exact Ev.now _
        · simp only [decide_eq_false h1, Bool.false_eq_true, if_false, Option.bind_some]
          exact Ev.now _
      · rw [e]
        simp only [spec_l2Tanks.l0, sin, Option.bind_some]
        refine ev_pos (by omega) (ev_pos (by omega) ?_)
        by_cases h1 : 0 ≤ (rd_T60 l (n : Int)).f0 ∧ (rd_T60 l (n : Int)).f0 ≤ 10000
        · have h2 : ¬ (-1000 ≤ (rd_T60 l (n : Int)).f1 ∧ (rd_T60 l (n : Int)).f1 ≤ 1000) := fun h => hb ⟨h1, h⟩
          exact ev_pos (decide_eq_true h1) (ev_neg (by simpa using h2) (Ev.now _))
        · exact ev_neg (by simpa using h1) (Ev.now _)
    by_cases h1 : 0 ≤ (rd_T60 l (n : Int)).f0 ∧ (rd_T60 l (n : Int)).f0 ≤ 10000
    · by_cases h2 : -1000 ≤ (rd_T60 l (n : Int)).f1 ∧ (rd_T60 l (n : Int)).f1 ≤ 1000
      · obtain ⟨r, a, b, c⟩ := ih (n + 1) (by omega)
        refine ⟨r, ev_succ ?_, ev_succ ?_, fun hr j h3 h4 => ?_⟩
        rotate_left; rotate_left
        · by_cases e : j = n
          · subst e; exact ⟨h1, h2⟩
          · exact c hr j (by omega) h4
        · simp only [impl_FuelTank_65.l0, impl_tanksOk_1.f, iin, hw, decide_eq_true h1, decide_eq_true h2, Option.bind_some, if_true, Bool.not_true, Bool.false_eq_true, if_false]
          exact ev_pos (by omega) (ev_pos (by omega) (ev_pos (by omega) a))
        · simp only [spec_l2Tanks.l0, sin, hw, decide_eq_true h1, decide_eq_true h2, Option.bind_some]
          exact ev_pos (by omega) (ev_pos (by omega) (ev_pos (by trivial) (ev_pos (by trivial) b)))
      · exact bad (fun h => h2 h.2)
    · exact bad (fun h => h1 h.1)
theorem tanks_both (l : List Tk) (hl : l.length ≤ 1048576) : ∃ b : Bool, Ev (fun k => impl_tanksOk.f k l) b ∧ Ev (fun k => spec_l2Tanks.f k l) b ∧ (b = true → l.length ≤ 8 ∧ ∀ j : Nat, okT (l.getD j z60)) := by
  obtain ⟨r, a, b, c⟩ := tanks_loop l hl l.length 0 (by omega)
  refine ⟨_, ?_, by unfold spec_l2Tanks.f; exact b, ?_⟩
  · unfold impl_tanksOk.f impl_FuelTank_58.f impl_FuelTank_65.f
    refine Ev.bind (Ev.bind a (Ev.now _)) ?_
    by_cases h : (l.length : Int) ≤ 8
    · simp only [if_pos h]; exact Ev.now _
    · simp only [if_neg h]; exact Ev.now _
  · intro h
    split at h
    · rename_i h8
      have hr : ¬ r ≥ 0 := by simpa using h
      refine ⟨by omega, fun j => ?_⟩
      by_cases hj : j < l.length
      · have := c hr j (Nat.zero_le _) hj
        unfold rd_T60 at this
        rwa [Int.toNat_natCast] at this
      · rw [List.getD_eq_getElem?_getD, List.getElem?_eq_none (by omega)]
        exact ⟨⟨by decide, by decide⟩, by decide, by decide⟩
    · cases h

theorem rdTk (l : List Tk) (n : Nat) : rd_T60 l (n : Int) = l.getD n z60 := by
  unfold rd_T60
  rw [Int.toNat_natCast]
def TOk (l : List Tk) : Prop := l.length ≤ 8 ∧ ∀ j : Nat, okT (l.getD j z60)
theorem inside_two {M F A : List Int} (hM : M.length + F.length + A.length ≤ 1048576) (hP : EnvP M F A) (x y : Int) : ∃ b : Bool, Ev (fun k => spec_Inside.f k M F A x y) b ∧ Ev (fun k => impl_inside.f k M F A x y) b := by
  have b1 : Ev (fun k => spec_Inside.j0 k true M F A x y) false := by
    refine ev_succ ?_
    simp only [spec_Inside.j0]
    exact ev_pos (by trivial) (Ev.now _)
  have b2 : Ev (fun k => impl_inside.j0 k true M F A x y) false := by
    refine ev_succ ?_
    simp only [impl_inside.j0]
    exact ev_pos (by trivial) (Ev.now _)
  obtain ⟨b, hb, ib⟩ := spec_env_ev M F A hM
  have hbt : b = true := ib.2 hP
  subst hbt
  unfold spec_Inside.f impl_inside.f
  have hl := hP.1
  have e := last_nat (T := M) (by omega) (by omega)
  have z : rd M 0 = M.getD 0 0 := rd_nat M 0
  have k1 : (0 : Int) < (M.length : Int) := by omega
  have k2 : 0 ≤ ((M.length - 1 : Nat) : Int) := by omega
  have k3 : ((M.length - 1 : Nat) : Int) < (M.length : Int) := by omega
  simp only [e, rd_nat, z, sin, iin, Option.bind_some]
  by_cases hx : 1 ≤ x ∧ M.getD 0 0 ≤ x ∧ x ≤ M.getD (M.length - 1) 0
  · have hx' : mx (M.getD 0 0) 1 ≤ x ∧ x ≤ M.getD (M.length - 1) 0 := ⟨(le_mx _ _ _).2 ⟨hx.2.1, hx.1⟩, hx.2.2⟩
    simp only [decide_eq_true hx', decide_eq_true hx.2]
    by_cases hy : (-1000000000 : Int) ≤ y ∧ y ≤ 1000000000
    · obtain ⟨r, r1, r2⟩ := inside_core hP x y
      simp only [decide_eq_true hy]
      exact ⟨r, Ev.bind hb (ev_pos rfl (ev_neg (by omega) (ev_pos k1 (ev_pos k2 (ev_pos k3 (ev_pos (by trivial) r1)))))), ev_pos k1 (ev_pos k2 (ev_pos k3 (ev_pos (by trivial) r2)))⟩
    · simp only [decide_eq_false hy]
      exact ⟨_, Ev.bind hb (ev_pos rfl (ev_neg (by omega) (ev_pos k1 (ev_pos k2 (ev_pos k3 (ev_pos (by trivial) b1)))))), ev_pos k1 (ev_pos k2 (ev_pos k3 (ev_pos (by trivial) b2)))⟩
  · have hx' : ¬ (mx (M.getD 0 0) 1 ≤ x ∧ x ≤ M.getD (M.length - 1) 0) := fun h => hx ⟨((le_mx _ _ _).1 h.1).2, ((le_mx _ _ _).1 h.1).1, h.2⟩
    simp only [decide_eq_false hx']
    by_cases c : x < 1
    · exact ⟨_, Ev.bind hb (ev_pos rfl (ev_pos c b1)), ev_pos k1 (ev_pos k2 (ev_pos k3 (ev_neg (by decide) b2)))⟩
    · have hx2 : ¬ (M.getD 0 0 ≤ x ∧ x ≤ M.getD (M.length - 1) 0) := fun h => hx ⟨by omega, h⟩
      simp only [decide_eq_false hx2]
      exact ⟨_, Ev.bind hb (ev_pos rfl (ev_neg c (ev_pos k1 (ev_pos k2 (ev_pos k3 (ev_neg (by decide) b1)))))), ev_pos k1 (ev_pos k2 (ev_pos k3 (ev_neg (by decide) b2)))⟩
theorem with_loop (l : List Tk) (hl : l.length ≤ 8) : ∀ (d n : Nat) (a b : Int), n + d = l.length → ∃ s : Int × Int, Ev (fun k => spec_l2With.l0 k l (n : Int) a b) s ∧ Ev (fun k => impl_laden.l0 k l (l.length : Int) (n : Int) a b) s := by
  intro d
  induction d with
  | zero =>
    intro n a b hn
    refine ⟨(a, b), ev_succ ?_, ev_succ ?_⟩
    · simp only [spec_l2With.l0]
      exact ev_neg (by omega) (Ev.now _)
    · simp only [impl_laden.l0]
      exact ev_neg (by omega) (Ev.now _)
  | succ d ih =>
    intro n a b hn
    have hw := w64_succ (n := n) (m := l.length) (by omega) (by omega)
    obtain ⟨s, h1, h2⟩ := ih (n + 1) (wrap64 (a + ((rd_T60 l (n : Int)).f0))) (wrap64 (b + (wrap64 (((rd_T60 l (n : Int)).f0) * ((rd_T60 l (n : Int)).f1))))) (by omega)
    refine ⟨s, ev_succ ?_, ev_succ ?_⟩
    · simp only [spec_l2With.l0, hw]
      exact ev_pos (by omega) (ev_pos (by omega) h1)
    · simp only [impl_laden.l0, hw]
      exact ev_pos (by omega) (ev_pos (by omega) (ev_pos (by omega) h2))
theorem with_both (l : List Tk) (hl : l.length ≤ 8) (a b : Int) : ∃ s : Int × Int, Ev (fun k => spec_l2With.f k a b l) s ∧ Ev (fun k => impl_laden.f k a b l) s := with_loop l hl l.length 0 a b (by omega)

def sumF : List Tk → Int
  | [] => 0
  | t :: ts => t.f0 + sumF ts
theorem sum_drop {l : List Tk} {n : Nat} (h : n < l.length) : sumF (l.drop n) = (l.getD n z60).f0 + sumF (l.drop (n + 1)) := by
  rw [List.drop_eq_getElem_cons h, List.getD_eq_getElem?_getD, List.getElem?_eq_getElem h]
  rfl
theorem sum_bd : ∀ (l : List Tk), (∀ j : Nat, okT (l.getD j z60)) → 0 ≤ sumF l ∧ sumF l ≤ 10000 * l.length
  | [], _ => ⟨Int.le_refl _, Int.le_refl _⟩
  | t :: ts, h => by
    have h0 : okT t := h 0
    have := sum_bd ts (fun j => h (j + 1))
    have h1 := h0.1
    simp only [sumF, List.length_cons]
    omega
theorem sum_zero : ∀ (l : List Tk), (∀ j : Nat, okT (l.getD j z60)) → sumF l = 0 → ∀ j : Nat, (l.getD j z60).f0 = 0
  | [], _, _, _ => rfl
  | t :: ts, h, hs, j => by
    have h0 : okT t := h 0
    have h2 : ∀ j : Nat, okT (ts.getD j z60) := fun j => h (j + 1)
    have b := sum_bd ts h2
    have h1 := h0.1
    simp only [sumF] at hs
    cases j with
    | zero => show t.f0 = 0; omega
    | succ j => exact sum_zero ts h2 (by omega) j
theorem sum_ne : ∀ (l : List Tk), sumF l ≠ 0 → ∃ j, j < l.length ∧ (l.getD j z60).f0 ≠ 0
  | [], h => absurd rfl h
  | t :: ts, h => by
    by_cases c : t.f0 = 0
    · simp only [sumF, c, Int.zero_add] at h
      obtain ⟨j, h1, h2⟩ := sum_ne ts h
      exact ⟨j + 1, by simp only [List.length_cons]; omega, h2⟩
    · exact ⟨0, by simp, c⟩
theorem getD_set_self (l : List Tk) (n : Nat) (t : Tk) (h : n < l.length) : (l.set n t).getD n z60 = t := by
  rw [List.getD_eq_getElem?_getD, List.getElem?_set_self h]
  rfl
theorem set_back (l : List Tk) (n : Nat) (t : Tk) (h : n < l.length) : (l.set n t).set n (l.getD n z60) = l := by
  rw [List.set_set, List.getD_eq_getElem?_getD, List.getElem?_eq_getElem h]
  simp
theorem tok_set {l : List Tk} (h : TOk l) (n : Nat) {t : Tk} (ht : okT t) : TOk (l.set n t) := by
  refine ⟨by rw [List.length_set]; exact h.1, fun j => ?_⟩
  by_cases c : n = j
  · subst c
    by_cases hn : n < l.length
    · rw [getD_set_self l n t hn]; exact ht
    · rw [List.set_eq_of_length_le (by omega)]; exact h.2 n
  · rw [List.getD_eq_getElem?_getD, List.getElem?_set_ne c, ← List.getD_eq_getElem?_getD]
    exact h.2 j
section
variable {M F A : List Int} {m0 m1 step : Int}
theorem sum_loop {now : List Tk} {out : List Bn} (ht : TOk now) : ∀ (d n : Nat) (acc : Int), n + d = now.length → 0 ≤ acc → acc ≤ 10000 * n → ∀ R : List Bn × Bool,
    Ev (fun k => if acc + sumF (now.drop n) = 0 then some (out, true) else spec_Order.l2 k step out now false 0 M F A m0 m1) R → Ev (fun k => spec_Order.l1 k step out now acc false (n : Int) M F A m0 m1) R := by
  have h8 := ht.1
  intro d
  induction d with
  | zero =>
    intro n acc hn h0 h1 R hR
    rw [List.drop_eq_nil_of_le (by omega), show acc + sumF [] = acc by simp [sumF]] at hR
    refine ev_succ ?_
    simp only [spec_Order.l1]
    exact ev_neg (by omega) hR
  | succ d ih =>
    intro n acc hn h0 h1 R hR
    have hw := w64_succ (n := n) (m := now.length) (by omega) (by omega)
    have hb := (ht.2 n).1
    rw [sum_drop (by omega), ← Int.add_assoc] at hR
    refine ev_succ ?_
    simp only [spec_Order.l1, rdTk, hw]
    rw [w64 (x := acc + (now.getD n z60).f0) (by omega) (by omega)]
    exact ev_pos (by omega) (ev_pos (by omega) (ih (n + 1) _ (by omega) (by omega) (by omega) R hR))
theorem empty_loop {now : List Tk} {out : List Bn} (h8 : now.length ≤ 8) (hs : 1 ≤ step) (hz : ∀ j : Nat, (now.getD j z60).f0 = 0) : ∀ (d n : Nat), n + d = now.length → Ev (fun k => impl_Order.l1 k step now out false false (now.length : Int) (n : Int) M F A m0 m1) (out, true) := by
  intro d
  induction d with
  | zero =>
    intro n hn
    refine ev_succ ?_
    simp only [impl_Order.l1]
    exact ev_neg (by omega) (ev_neg (by decide) (Ev.now _))
  | succ d ih =>
    intro n hn
    have hw := w64_succ (n := n) (m := now.length) (by omega) (by omega)
    refine ev_succ ?_
    simp only [impl_Order.l1, rdTk, hw, hz]
    refine ev_pos (by omega) (ev_pos (by omega) (ev_pos (by omega) (ev_pos ?_ (ih (n + 1) (by omega)))))
    unfold mn
    rw [if_pos (by omega)]
theorem full_loop {now : List Tk} {out : List Bn} (ht : TOk now) (hs : 1 ≤ step) (hf : out.length = 60) : ∀ (d n : Nat), n + d = now.length → (∃ j, n ≤ j ∧ j < now.length ∧ (now.getD j z60).f0 ≠ 0) → Ev (fun k => impl_Order.l1 k step now out false false (now.length : Int) (n : Int) M F A m0 m1) (out, false) := by
  have h8 := ht.1
  intro d
  induction d with
  | zero =>
    intro n hn he
    obtain ⟨j, a, b, c⟩ := he
    omega
  | succ d ih =>
    intro n hn he
    have hw := w64_succ (n := n) (m := now.length) (by omega) (by omega)
    have hb := (ht.2 n).1
    refine ev_succ ?_
    simp only [impl_Order.l1, rdTk, hw]
    refine ev_pos (by omega) (ev_pos (by omega) (ev_pos (by omega) ?_))
    by_cases c : (now.getD n z60).f0 = 0
    · refine ev_pos (by unfold mn; rw [c, if_pos (by omega)]) (ih (n + 1) (by omega) ?_)
      obtain ⟨j, a, b, e⟩ := he
      refine ⟨j, ?_, b, e⟩
      rcases Nat.lt_or_ge n j with q | q
      · exact q
      · have : j = n := by omega
        subst this; exact absurd c e
    · exact ev_neg (by unfold mn; split <;> omega) (ev_pos (by omega) (ev_neg (by decide) (Ev.now _)))
theorem done_step {now : List Tk} {out : List Bn} {n : Nat} {R : List Bn × Bool} (h : Ev (fun k => spec_Order.l0 k step out now M F A m0 m1) R) : Ev (fun k => spec_Order.l2 k step out now true (n : Int) M F A m0 m1) R := by
  have j : Ev (fun k => spec_Order.j4 k step out now true (n : Int) false M F A m0 m1) R := by
    refine ev_succ ?_
    simp only [spec_Order.j4]
    exact ev_neg (by decide) (ev_pos (by trivial) h)
  refine ev_succ ?_
  simp only [spec_Order.l2]
  by_cases c : (n : Int) < (now.length : Int)
  · exact ev_pos c (ev_pos (by trivial) j)
  · exact ev_neg c j
theorem tries (hM : M.length + F.length + A.length ≤ 1048576) (hP : EnvP M F A) (hs : 1 ≤ step) (hs2 : step ≤ 10000) {now : List Tk} {out : List Bn} (ht : TOk now) (ho : out.length < 60)
    (IH : ∀ (now' : List Tk) (out' : List Bn), TOk now' → out'.length = out.length + 1 → ∃ R : List Bn × Bool, R.1.length ≤ 60 ∧ Ev (fun k => spec_Order.l0 k step out' now' M F A m0 m1) R ∧ Ev (fun k => impl_Order.l0 k step now' out' M F A m0 m1) R) :
    ∀ (d n : Nat) (lf : Bool), n + d = now.length → (lf = true ∨ ∃ j, n ≤ j ∧ j < now.length ∧ (now.getD j z60).f0 ≠ 0) → ∃ R : List Bn × Bool, R.1.length ≤ 60 ∧ Ev (fun k => spec_Order.l2 k step out now false (n : Int) M F A m0 m1) R ∧ Ev (fun k => impl_Order.l1 k step now out false lf (now.length : Int) (n : Int) M F A m0 m1) R := by
  have h8 := ht.1
  intro d
  induction d with
  | zero =>
    intro n lf hn he
    have hlf : lf = true := by
      rcases he with h | ⟨j, a, b, c⟩
      · exact h
      · omega
    subst hlf
    refine ⟨(out, false), by show out.length ≤ 60; omega, ev_succ ?_, ev_succ ?_⟩
    · simp only [spec_Order.l2]
      refine ev_neg (by omega) (ev_succ ?_)
      simp only [spec_Order.j4]
      exact ev_neg (by decide) (ev_neg (by decide) (Ev.now _))
    · simp only [impl_Order.l1]
      exact ev_neg (by omega) (ev_neg (by decide) (Ev.now _))
  | succ d ih =>
    intro n lf hn he
    have hw := w64_succ (n := n) (m := now.length) (by omega) (by omega)
    have hok := ht.2 n
    have hb := hok.1
    generalize hg : now.getD n z60 = t at *
    obtain ⟨mv, hmv⟩ : ∃ m, m = mn step t.f0 := ⟨_, rfl⟩
    have hmin : spec_l1Min.f step t.f0 = some mv := by
      rw [hmv]; unfold spec_l1Min.f mn
      by_cases c : step < t.f0
      · rw [if_pos c, if_neg (by omega)]
      · rw [if_neg c]
        by_cases c2 : t.f0 < step
        · rw [if_pos c2]
        · rw [if_neg c2, show t.f0 = step by omega]
    have hmb : 0 ≤ mv ∧ mv ≤ t.f0 ∧ mv ≤ 10000 ∧ (mv = 0 ↔ t.f0 = 0) := by
      rw [hmv]; unfold mn; split <;> omega
    have in4 : ∀ {R : List Bn × Bool}, Ev (fun k => spec_Order.j4 k step out now false (n : Int) true M F A m0 m1) R → Ev (fun k => spec_Order.l2 k step out now false (n : Int) M F A m0 m1) R := by
      intro R h
      refine ev_succ ?_
      simp only [spec_Order.l2]
      rw [decide_eq_true (show (out.length : Int) < 60 by omega)]
      exact ev_pos (by omega) (ev_neg (by decide) h)
    by_cases c : t.f0 = 0
    · have hm0 := hmb.2.2.2.2 c
      obtain ⟨R, h0, h1, h2⟩ := ih (n + 1) lf (by omega) (by
        rcases he with h | ⟨j, a, b, e⟩
        · exact .inl h
        · refine .inr ⟨j, ?_, b, e⟩
          rcases Nat.lt_or_ge n j with q | q
          · exact q
          · have : j = n := by omega
            subst this; rw [hg] at e; exact absurd c e)
      refine ⟨R, h0, in4 (ev_succ ?_), ev_succ ?_⟩
      · simp only [spec_Order.j4, rdTk, hg, hmin, hw, Option.bind_some]
        exact ev_pos (by trivial) (ev_pos (by omega) (ev_pos (by omega) (ev_pos hm0 h1)))
      · simp only [impl_Order.l1, rdTk, hg, ← hmv, hw]
        exact ev_pos (by omega) (ev_pos (by omega) (ev_pos (by omega) (ev_pos hm0 h2)))
    · have hm0 : ¬ mv = 0 := fun h => c (hmb.2.2.2.1 h)
      have e1 : wrap64 (t.f0 - mv) = t.f0 - mv := w64 (by omega) (by omega)
      have e2 : wrap64 (t.f0 - mv + mv) = t.f0 := by rw [w64 (by omega) (by omega)]; omega
      have ht1 : TOk (now.set n ⟨t.f0 - mv, t.f1⟩) := tok_set ht n ⟨⟨by show 0 ≤ t.f0 - mv; omega, by show t.f0 - mv ≤ 10000; omega⟩, hok.2⟩
      have hg1 : (now.set n (⟨t.f0 - mv, t.f1⟩ : Tk)).getD n z60 = ⟨t.f0 - mv, t.f1⟩ := getD_set_self _ _ _ (by omega)
      have hback : (now.set n (⟨t.f0 - mv, t.f1⟩ : Tk)).set n ⟨t.f0, t.f1⟩ = now := by
        have := set_back now n ⟨t.f0 - mv, t.f1⟩ (by omega)
        rwa [hg] at this
      obtain ⟨s, w1, w2⟩ := with_both (now.set n ⟨t.f0 - mv, t.f1⟩) ht1.1 m0 m1
      obtain ⟨b, i1, i2⟩ := inside_two hM hP s.1 s.2
      cases b with
      | true =>
        obtain ⟨R, h0, h1, h2⟩ := IH (now.set n ⟨t.f0 - mv, t.f1⟩) (out ++ [⟨(n : Int), mv⟩]) ht1 (by simp)
        refine ⟨R, h0, in4 (ev_succ ?_), ev_succ ?_⟩
        · simp only [spec_Order.j4, rdTk, hg, hmin, hw, e1, Int.toNat_natCast, Option.bind_some]
          exact ev_pos (by trivial) (ev_pos (by omega) (ev_pos (by omega) (ev_neg hm0 (Ev.bind w1 (Ev.bind i1 (ev_pos (by trivial) (ev_pos (by omega) (done_step h1))))))))
        · simp only [impl_Order.l1, rdTk, hg, ← hmv, hw, e1, Int.toNat_natCast, Option.bind_some]
          exact ev_pos (by omega) (ev_pos (by omega) (ev_pos (by omega) (ev_neg hm0 (ev_neg (by omega) (Ev.bind w2 (Ev.bind i2 (ev_pos (by trivial) (ev_pos (by omega) h2))))))))
      | false =>
        obtain ⟨R, h0, h1, h2⟩ := ih (n + 1) true (by omega) (.inl rfl)
        refine ⟨R, h0, in4 (ev_succ ?_), ev_succ ?_⟩
        · simp only [spec_Order.j4, rdTk, hg, hg1, hmin, hw, e1, e2, hback, Int.toNat_natCast, Option.bind_some]
          exact ev_pos (by trivial) (ev_pos (by omega) (ev_pos (by omega) (ev_neg hm0 (Ev.bind w1 (Ev.bind i1 (ev_neg (by decide) h1))))))
        · simp only [impl_Order.l1, rdTk, hg, hg1, ← hmv, hw, e1, e2, hback, Int.toNat_natCast, Option.bind_some]
          exact ev_pos (by omega) (ev_pos (by omega) (ev_pos (by omega) (ev_neg hm0 (ev_neg (by omega) (Ev.bind w2 (Ev.bind i2 (ev_neg (by decide) h2)))))))
theorem order_loop (hM : M.length + F.length + A.length ≤ 1048576) (hP : EnvP M F A) (hs : 1 ≤ step) (hs2 : step ≤ 10000) : ∀ (e : Nat) (now : List Tk) (out : List Bn), TOk now → out.length + e = 60 → ∃ R : List Bn × Bool, R.1.length ≤ 60 ∧ Ev (fun k => spec_Order.l0 k step out now M F A m0 m1) R ∧ Ev (fun k => impl_Order.l0 k step now out M F A m0 m1) R := by
  intro e
  induction e with
  | zero =>
    intro now out ht ho
    by_cases c : sumF now = 0
    · refine ⟨(out, true), by show out.length ≤ 60; omega, ev_succ ?_, ev_succ ?_⟩
      · simp only [spec_Order.l0]
        exact sum_loop ht now.length 0 0 (by omega) (by omega) (by omega) _ (ev_pos (by rw [List.drop_zero]; omega) (Ev.now _))
      · simp only [impl_Order.l0]
        exact empty_loop ht.1 hs (sum_zero now ht.2 c) now.length 0 (by omega)
    · obtain ⟨j, j1, j2⟩ := sum_ne now c
      refine ⟨(out, false), by show out.length ≤ 60; omega, ev_succ ?_, ev_succ ?_⟩
      · simp only [spec_Order.l0]
        refine sum_loop ht now.length 0 0 (by omega) (by omega) (by omega) _ (ev_neg (by rw [List.drop_zero]; omega) (ev_succ ?_))
        simp only [spec_Order.l2]
        rw [decide_eq_false (show ¬ (out.length : Int) < 60 by omega)]
        refine ev_pos (by omega) (ev_neg (by decide) (ev_succ ?_))
        simp only [spec_Order.j4]
        exact ev_neg (by decide) (ev_neg (by decide) (Ev.now _))
      · simp only [impl_Order.l0]
        exact full_loop ht hs (by omega) now.length 0 (by omega) ⟨j, Nat.zero_le _, j1, j2⟩
  | succ e ih =>
    intro now out ht ho
    by_cases c : sumF now = 0
    · refine ⟨(out, true), by show out.length ≤ 60; omega, ev_succ ?_, ev_succ ?_⟩
      · simp only [spec_Order.l0]
        exact sum_loop ht now.length 0 0 (by omega) (by omega) (by omega) _ (ev_pos (by rw [List.drop_zero]; omega) (Ev.now _))
      · simp only [impl_Order.l0]
        exact empty_loop ht.1 hs (sum_zero now ht.2 c) now.length 0 (by omega)
    · obtain ⟨j, j1, j2⟩ := sum_ne now c
      obtain ⟨R, h0, h1, h2⟩ := tries (now := now) (out := out) hM hP hs hs2 ht (by omega) (fun now' out' a b => ih now' out' a (by omega)) now.length 0 false (by omega) (.inr ⟨j, Nat.zero_le _, j1, j2⟩)
      refine ⟨R, h0, ev_succ ?_, ev_succ ?_⟩
      · simp only [spec_Order.l0]
        exact sum_loop ht now.length 0 0 (by omega) (by omega) (by omega) _ (ev_neg (by rw [List.drop_zero]; omega) h1)
      · simp only [impl_Order.l0]
        exact h2
end
theorem order_both (M F A : List Int) (hM : M.length + F.length + A.length ≤ 1048576) (m0 m1 : Int) (l : List Tk) (hl : l.length ≤ 1048576) (step : Int) : ∃ R : List Bn × Bool, R.1.length ≤ 60 ∧ Ev (fun k => spec_Order.f k M F A m0 m1 l step) R ∧ Ev (fun k => impl_Order.f k M F A m0 m1 l step) R := by
  have no : Ev (fun k => spec_Order.j0 k l step [] true M F A m0 m1) (([] : List Bn), false) := by
    refine ev_succ ?_
    simp only [spec_Order.j0]
    exact ev_pos (by trivial) (Ev.now _)
  have no2 : Ev (fun k => impl_Order.j0 k l step true M F A m0 m1) (([] : List Bn), false) := by
    refine ev_succ ?_
    simp only [impl_Order.j0]
    exact ev_pos (by trivial) (Ev.now _)
  obtain ⟨e, e1, e2, ie⟩ := (spec_env_ev M F A hM).same (impl_env_ev M F A hM)
  obtain ⟨t, t1, t2, it⟩ := tanks_both l hl
  unfold spec_Order.f impl_Order.f
  -- what both ask first
  have lad : ∀ c : Bool, c = (e && decide (0 ≤ m0 ∧ m0 ≤ 400000) && decide (-100000000 ≤ m1 ∧ m1 ≤ 100000000) && t) → Ev (fun k => impl_ladenOk.f k M F A m0 m1 l) c := by
    intro c hc
    unfold impl_ladenOk.f
    refine Ev.bind e2 ?_
    simp only [iin, Option.bind_some]
    cases e with
    | false => exact ev_neg (by decide) (by rw [hc]; exact Ev.now _)
    | true =>
      refine ev_pos (by trivial) ?_
      by_cases h1 : 0 ≤ m0 ∧ m0 ≤ 400000
      · refine ev_pos (decide_eq_true h1) ?_
        by_cases h2 : -100000000 ≤ m1 ∧ m1 ≤ 100000000
        · refine ev_pos (decide_eq_true h2) (Ev.bind t1 ?_)
          rw [hc, decide_eq_true h1, decide_eq_true h2]
          simp only [Bool.true_and]
          exact Ev.now _
        · refine ev_neg (by simpa using h2) ?_
          rw [hc, decide_eq_false h2]
          simp only [Bool.and_false, Bool.false_and]
          exact Ev.now _
      · refine ev_neg (by simpa using h1) ?_
        rw [hc, decide_eq_false h1]
        simp only [Bool.and_false, Bool.false_and]
        exact Ev.now _
  have dry : ∀ c : Bool, c = (e && decide (0 ≤ m0 ∧ m0 ≤ 400000) && decide (-100000000 ≤ m1 ∧ m1 ≤ 100000000)) → Ev (fun k => spec_l2Dry.f k M F A m0 m1) c := by
    intro c hc
    unfold spec_l2Dry.f
    refine Ev.bind e1 ?_
    simp only [sin, Option.bind_some]
    cases e with
    | false => exact ev_neg (by decide) (by rw [hc]; exact Ev.now _)
    | true =>
      refine ev_pos (by trivial) ?_
      by_cases h1 : 0 ≤ m0 ∧ m0 ≤ 400000
      · refine ev_pos (decide_eq_true h1) ?_
        rw [hc, decide_eq_true h1]
        simp only [Bool.true_and]
        exact Ev.now _
      · refine ev_neg (by simpa using h1) ?_
        rw [hc, decide_eq_false h1]
        simp only [Bool.and_false, Bool.false_and]
        exact Ev.now _
  generalize hd : (e && decide (0 ≤ m0 ∧ m0 ≤ 400000) && decide (-100000000 ≤ m1 ∧ m1 ≤ 100000000)) = dr at *
  have dry' := dry dr rfl
  have lad' := lad (dr && t) rfl
  simp only [sin, iin, Option.bind_some]
  cases dr with
  | false => exact ⟨_, Nat.zero_le _, Ev.bind dry' (ev_neg (by decide) no), Ev.bind lad' (ev_neg (by simp) no2)⟩
  | true =>
    cases t with
    | false => exact ⟨_, Nat.zero_le _, Ev.bind dry' (ev_pos (by trivial) (Ev.bind t2 (ev_neg (by decide) no))), Ev.bind lad' (ev_neg (by decide) no2)⟩
    | true =>
      by_cases hs : 1 ≤ step ∧ step ≤ 10000
      · have hP : EnvP M F A := by
          refine ie.1 ?_
          cases e
          · cases hd
          · rfl
        obtain ⟨h8, hok⟩ := it rfl
        have ht : TOk l := ⟨h8, hok⟩
        obtain ⟨s, w1, w2⟩ := with_both l h8 m0 m1
        obtain ⟨b, i1, i2⟩ := inside_two hM hP s.1 s.2
        rw [decide_eq_true hs]
        cases b with
        | false =>
          refine ⟨_, Nat.zero_le _, Ev.bind dry' (ev_pos (by trivial) (Ev.bind t2 (ev_pos (by trivial) (ev_succ ?_)))), Ev.bind lad' (ev_pos (by trivial) (ev_pos (by trivial) (Ev.bind w2 (Ev.bind i2 no2))))⟩
          simp only [spec_Order.j0, Option.bind_some, List.nil_append, List.length_nil]
          exact ev_neg (by decide) (ev_pos (by omega) (Ev.bind w1 (Ev.bind i1 (ev_neg (by decide) (Ev.now _)))))
        | true =>
          obtain ⟨R, h0, h1, h2⟩ := order_loop (m0 := m0) (m1 := m1) hM hP hs.1 hs.2 60 l [] ht rfl
          refine ⟨R, h0, Ev.bind dry' (ev_pos (by trivial) (Ev.bind t2 (ev_pos (by trivial) (ev_succ ?_)))), Ev.bind lad' (ev_pos (by trivial) (ev_pos (by trivial) (Ev.bind w2 (Ev.bind i2 (ev_succ ?_)))))⟩
          · simp only [spec_Order.j0, Option.bind_some, List.nil_append, List.length_nil]
            exact ev_neg (by decide) (ev_pos (by omega) (Ev.bind w1 (Ev.bind i1 (ev_pos (by trivial) h1))))
          · simp only [impl_Order.j0, impl_FuelTank_41.f, Option.bind_some, List.nil_append, List.length_nil]
            rw [if_pos (by omega)]
            exact ev_neg (by decide) h2
      · rw [decide_eq_false hs]
        exact ⟨_, Nat.zero_le _, Ev.bind dry' (ev_pos (by trivial) (Ev.bind t2 (ev_pos (by trivial) no))), Ev.bind lad' (ev_pos (by trivial) (ev_neg (by decide) no2))⟩

theorem szFuelTankS_eq (l : List S68) (m : Int) (h0 : 0 ≤ m) (h1 : m ≤ 1048576) (hl : l.length ≤ 9223372036854775807) : laws_szFuelTankS.f l m = some (if m - l.length < 0 then -1 else m - l.length) := by
  unfold laws_szFuelTankS.f
  rw [w64 (x := m - (l.length : Int)) (by omega) (by omega)]
  by_cases h : m - (l.length : Int) < 0
  · rw [if_pos h, if_pos h]
  · rw [if_neg h, if_neg h]

def c_FuelTank (x : S68) : S60 := ⟨x.f0, x.f1⟩
theorem toFuelTankS_loop (x0 : List S68) (hx : x0.length ≤ 9223372036854775807) : ∀ (d n : Nat) (x3 : List S60), n + d = x0.length → x3.length = x0.length → x3.take n = (x0.map c_FuelTank).take n → Ev (fun k => laws_toFuelTankS.l0 k x0 x3 (n : Int)) (x0.map c_FuelTank) := by
  intro d
  induction d with
  | zero =>
    intro n x3 hn hl ht
    refine ev_succ ?_
    simp only [laws_toFuelTankS.l0]
    refine ev_neg (by omega) ?_
    have e : x3 = x0.map c_FuelTank := by rw [← List.take_of_length_le (l := x3) (i := n) (by omega), ht, List.take_of_length_le (by simp; omega)]
    rw [e]
    exact Ev.now _
  | succ d ih =>
    intro n x3 hn hl ht
    have e : (⟨(rd_T68 x0 (n : Int)).f0, (rd_T68 x0 (n : Int)).f1⟩ : S60) = (x0.map c_FuelTank).getD n (c_FuelTank z68) := by
      rw [getD_map]
      simp [rd_T68, c_FuelTank]
    refine ev_succ ?_
    simp only [laws_toFuelTankS.l0, laws_toFuelTank.f, Option.bind_some, Int.toNat_natCast]
    refine ev_pos (by omega) (ev_pos (by omega) (ev_pos (by omega) ?_))
    rw [e, w64_succ (m := x0.length) (by omega) hx]
    exact ih (n + 1) _ (by omega) (by simpa using hl) (take_set_succ _ (by simp; omega) (by simpa using hl) ht)
theorem toFuelTankS_ev (l : List S68) (h : l.length ≤ 1048576) : Ev (fun k => laws_toFuelTankS.f k l) (l.map c_FuelTank) := by
  unfold laws_toFuelTankS.f
  refine ev_pos (by omega) (ev_pos (by omega) ?_)
  exact toFuelTankS_loop l (by omega) l.length 0 _ (by omega) (by simp) (by simp)

theorem eqFuelTank_eq (a0 : Int) (a1 : Int) : laws_eqFuelTank.f a0 a1 a0 a1 = some true := by
  simp [laws_eqFuelTank.f]
theorem eqFuelTankS_loop (x0 : List S60) (hx : x0.length ≤ 9223372036854775807) : ∀ (d n : Nat), n + d = x0.length → Ev (fun k => laws_eqFuelTankS.l0 k x0 x0 (n : Int)) true := by
  intro d
  induction d with
  | zero =>
    intro n hn
    refine ev_succ ?_
    simp only [laws_eqFuelTankS.l0]
    exact ev_neg (by omega) (Ev.now _)
  | succ d ih =>
    intro n hn
    refine ev_succ ?_
    simp only [laws_eqFuelTankS.l0, eqFuelTank_eq, Option.bind_some]
    refine ev_pos (by omega) (ev_pos (by omega) (ev_pos (by omega) (ev_pos (by trivial) ?_)))
    rw [w64_succ (m := x0.length) (by omega) hx]
    exact ih (n + 1) (by omega)
theorem eqFuelTankS_ev (l : List S60) (h : l.length ≤ 9223372036854775807) : Ev (fun k => laws_eqFuelTankS.f k l l) true := by
  unfold laws_eqFuelTankS.f
  exact ev_pos (by trivial) (eqFuelTankS_loop l h l.length 0 (by omega))

theorem eqBurn_eq (a0 : Int) (a1 : Int) : laws_eqBurn.f a0 a1 a0 a1 = some true := by
  simp [laws_eqBurn.f]
theorem eqBurnS_loop (x0 : List S62) (hx : x0.length ≤ 9223372036854775807) : ∀ (d n : Nat), n + d = x0.length → Ev (fun k => laws_eqBurnS.l0 k x0 x0 (n : Int)) true := by
  intro d
  induction d with
  | zero =>
    intro n hn
    refine ev_succ ?_
    simp only [laws_eqBurnS.l0]
    exact ev_neg (by omega) (Ev.now _)
  | succ d ih =>
    intro n hn
    refine ev_succ ?_
    simp only [laws_eqBurnS.l0, eqBurn_eq, Option.bind_some]
    refine ev_pos (by omega) (ev_pos (by omega) (ev_pos (by omega) (ev_pos (by trivial) ?_)))
    rw [w64_succ (m := x0.length) (by omega) hx]
    exact ih (n + 1) (by omega)
theorem eqBurnS_ev (l : List S62) (h : l.length ≤ 9223372036854775807) : Ev (fun k => laws_eqBurnS.f k l l) true := by
  unfold laws_eqBurnS.f
  exact ev_pos (by trivial) (eqBurnS_loop l h l.length 0 (by omega))

def marks_FuelTank (m : Int) (n : Nat) : List S60 := (List.range n).map fun (i : Nat) => ⟨m + 2 * (i : Int), m + 2 * (i : Int) + 1⟩
theorem markFuelTankS_loop (N : Nat) (hN : N ≤ 100000000) (m0 : Int) (hm0 : 0 ≤ m0) (hm1 : m0 ≤ 100000000) : ∀ (d n : Nat) (x0 : List S60) (m : Int), n + d = N → x0.length = N → m = m0 + 2 * n → x0.take n = (marks_FuelTank m0 N).take n → Ev (fun k => laws_markFuelTankS.l0 k x0 m (n : Int)) (m0 + 2 * N, marks_FuelTank m0 N) := by
  intro d
  induction d with
  | zero =>
    intro n x0 m hn hl hm ht
    refine ev_succ ?_
    simp only [laws_markFuelTankS.l0]
    refine ev_neg (by omega) ?_
    have e : x0 = marks_FuelTank m0 N := by rw [← List.take_of_length_le (l := x0) (i := n) (by omega), ht, List.take_of_length_le (by simp [marks_FuelTank]; omega)]
    rw [e, hm, show n = N by omega]
    exact Ev.now _
  | succ d ih =>
    intro n x0 m hn hl hm ht
    refine ev_succ ?_
    simp only [laws_markFuelTankS.l0, Option.bind_some, Int.toNat_natCast]
    refine ev_pos (by omega) (ev_pos (by omega) ?_)
    have hlt : n < x0.length := by omega
    have e1 : ∀ x : S60, rd_T60 (x0.set n x) (n : Int) = x := by
      intro x
      unfold rd_T60
      rw [Int.toNat_natCast, List.getD_eq_getElem?_getD, List.getElem?_set_self hlt]
      rfl
    simp only [e1, List.set_set, w64_succ (m := N) (n := n) (by omega) (by omega)]
    have key := ih (n + 1) (x0.set n ⟨m, m + 1⟩) (m + 2) (by omega) (by simpa using hl) (by omega) (by
      have := take_set_succ z60 (x0 := marks_FuelTank m0 N) (x3 := x0) (n := n) (by simp [marks_FuelTank]; omega) (by simp [marks_FuelTank]; omega) ht
      rw [show (marks_FuelTank m0 N).getD n z60 = ⟨m, m + 1⟩ by
        simp only [marks_FuelTank, List.getD_eq_getElem?_getD, List.getElem?_map, List.getElem?_range (show n < N by omega), Option.map_some, Option.getD_some, hm]
        try (congr 1 <;> omega)] at this
      exact this)
    rw [w64 (x := m + 1) (by omega) (by omega), w64 (x := m + 1 + 1) (by omega) (by omega)]
    rw [show m + 1 + 1 = m + 2 by omega]
    exact key
theorem markFuelTankS_ev (l : List S60) (h : l.length ≤ 100000000) (m : Int) (h0 : 0 ≤ m) (h1 : m ≤ 100000000) : Ev (fun k => laws_markFuelTankS.f k l m) (m + 2 * l.length, marks_FuelTank m l.length) := by
  unfold laws_markFuelTankS.f
  exact markFuelTankS_loop l.length h m h0 h1 l.length 0 l m (by omega) rfl (by omega) (by simp)

def marks_Burn (m : Int) (n : Nat) : List S62 := (List.range n).map fun (i : Nat) => ⟨m + 2 * (i : Int), m + 2 * (i : Int) + 1⟩
theorem markBurnS_loop (N : Nat) (hN : N ≤ 100000000) (m0 : Int) (hm0 : 0 ≤ m0) (hm1 : m0 ≤ 100000000) : ∀ (d n : Nat) (x0 : List S62) (m : Int), n + d = N → x0.length = N → m = m0 + 2 * n → x0.take n = (marks_Burn m0 N).take n → Ev (fun k => laws_markBurnS.l0 k x0 m (n : Int)) (m0 + 2 * N, marks_Burn m0 N) := by
  intro d
  induction d with
  | zero =>
    intro n x0 m hn hl hm ht
    refine ev_succ ?_
    simp only [laws_markBurnS.l0]
    refine ev_neg (by omega) ?_
    have e : x0 = marks_Burn m0 N := by rw [← List.take_of_length_le (l := x0) (i := n) (by omega), ht, List.take_of_length_le (by simp [marks_Burn]; omega)]
    rw [e, hm, show n = N by omega]
    exact Ev.now _
  | succ d ih =>
    intro n x0 m hn hl hm ht
    refine ev_succ ?_
    simp only [laws_markBurnS.l0, Option.bind_some, Int.toNat_natCast]
    refine ev_pos (by omega) (ev_pos (by omega) ?_)
    have hlt : n < x0.length := by omega
    have e1 : ∀ x : S62, rd_T62 (x0.set n x) (n : Int) = x := by
      intro x
      unfold rd_T62
      rw [Int.toNat_natCast, List.getD_eq_getElem?_getD, List.getElem?_set_self hlt]
      rfl
    simp only [e1, List.set_set, w64_succ (m := N) (n := n) (by omega) (by omega)]
    have key := ih (n + 1) (x0.set n ⟨m, m + 1⟩) (m + 2) (by omega) (by simpa using hl) (by omega) (by
      have := take_set_succ z62 (x0 := marks_Burn m0 N) (x3 := x0) (n := n) (by simp [marks_Burn]; omega) (by simp [marks_Burn]; omega) ht
      rw [show (marks_Burn m0 N).getD n z62 = ⟨m, m + 1⟩ by
        simp only [marks_Burn, List.getD_eq_getElem?_getD, List.getElem?_map, List.getElem?_range (show n < N by omega), Option.map_some, Option.getD_some, hm]
        try (congr 1 <;> omega)] at this
      exact this)
    rw [w64 (x := m + 1) (by omega) (by omega), w64 (x := m + 1 + 1) (by omega) (by omega)]
    rw [show m + 1 + 1 = m + 2 by omega]
    exact key
theorem markBurnS_ev (l : List S62) (h : l.length ≤ 100000000) (m : Int) (h0 : 0 ≤ m) (h1 : m ≤ 100000000) : Ev (fun k => laws_markBurnS.f k l m) (m + 2 * l.length, marks_Burn m l.length) := by
  unfold laws_markBurnS.f
  exact markBurnS_loop l.length h m h0 h1 l.length 0 l m (by omega) rfl (by omega) (by simp)

theorem heldBurnS_loop (N : Nat) (hN : N ≤ 100000000) (m0 : Int) (hm0 : 0 ≤ m0) (hm1 : m0 ≤ 100000000) : ∀ (d n : Nat) (m : Int), n + d = N → m = m0 + 2 * n → Ev (fun k => laws_heldBurnS.l0 k (marks_Burn m0 N) m (n : Int)) (m0 + 2 * N) := by
  intro d
  have hL : (marks_Burn m0 N).length = N := by simp [marks_Burn]
  induction d with
  | zero =>
    intro n m hn hm
    refine ev_succ ?_
    simp only [laws_heldBurnS.l0, hL]
    refine ev_neg (by omega) ?_
    rw [hm, show n = N by omega]
    exact Ev.now _
  | succ d ih =>
    intro n m hn hm
    refine ev_succ ?_
    have e : rd_T62 (marks_Burn m0 N) (n : Int) = ⟨m, m + 1⟩ := by
      unfold rd_T62
      simp only [marks_Burn, Int.toNat_natCast, List.getD_eq_getElem?_getD, List.getElem?_map, List.getElem?_range (show n < N by omega), Option.map_some, Option.getD_some, hm]
      try (congr 2 <;> omega)
    simp only [laws_heldBurnS.l0, hL, e]
    rw [w64 (x := m + 1) (by omega) (by omega), w64 (x := m + 1 + 1) (by omega) (by omega), w64_succ (m := N) (n := n) (by omega) (by omega)]
    rw [show m + 1 + 1 = m + 2 by omega]
    exact ev_pos (by omega) (ev_pos (by omega) (by first | exact ih (n + 1) (m + 2) (by omega) (by omega) | exact ev_pos (by first | trivial | rfl | omega) (ih (n + 1) (m + 2) (by omega) (by omega)) | exact ev_pos (by first | trivial | rfl | omega) (ev_pos (by first | trivial | rfl | omega) (ih (n + 1) (m + 2) (by omega) (by omega)))))
theorem heldBurnS_ev (N : Nat) (h : N ≤ 100000000) (m : Int) (h0 : 0 ≤ m) (h1 : m ≤ 100000000) : Ev (fun k => laws_heldBurnS.f k (marks_Burn m N) m) (m + 2 * N) := by
  unfold laws_heldBurnS.f
  exact heldBurnS_loop N h m h0 h1 N 0 m (by omega) (by omega)

def marksI (m : Int) (n : Nat) : List Int := (List.range n).map fun (i : Nat) => m + (i : Int)
theorem marksI_get (m : Int) (N n : Nat) (h : n < N) : (marksI m N).getD n 0 = m + n := by
  simp only [marksI, List.getD_eq_getElem?_getD, List.getElem?_map, List.getElem?_range h, Option.map_some, Option.getD_some]
theorem markIntS_loop (N : Nat) (hN : N ≤ 100000000) (m0 : Int) (hm0 : 0 ≤ m0) (hm1 : m0 ≤ 100000000) : ∀ (d n : Nat) (x0 : List Int) (m : Int), n + d = N → x0.length = N → m = m0 + n → x0.take n = (marksI m0 N).take n → Ev (fun k => laws_markIntS.l0 k x0 m (n : Int)) (m0 + N, marksI m0 N) := by
  intro d
  induction d with
  | zero =>
    intro n x0 m hn hl hm ht
    refine ev_succ ?_
    simp only [laws_markIntS.l0]
    refine ev_neg (by omega) ?_
    have e : x0 = marksI m0 N := by rw [← List.take_of_length_le (l := x0) (i := n) (by omega), ht, List.take_of_length_le (by simp [marksI]; omega)]
    rw [e, hm, show n = N by omega]
    exact Ev.now _
  | succ d ih =>
    intro n x0 m hn hl hm ht
    refine ev_succ ?_
    simp only [laws_markIntS.l0, Int.toNat_natCast]
    refine ev_pos (by omega) (ev_pos (by omega) ?_)
    rw [w64_succ (m := N) (n := n) (by omega) (by omega), w64 (x := m + 1) (by omega) (by omega)]
    refine ih (n + 1) (x0.set n m) (m + 1) (by omega) (by simpa using hl) (by omega) ?_
    have := take_set_succ 0 (x0 := marksI m0 N) (x3 := x0) (n := n) (by simp [marksI]; omega) (by simp [marksI]; omega) ht
    rw [marksI_get _ _ _ (by omega), ← hm] at this
    exact this
theorem markIntS_ev (l : List Int) (h : l.length ≤ 100000000) (m : Int) (h0 : 0 ≤ m) (h1 : m ≤ 100000000) : Ev (fun k => laws_markIntS.f k l m) (m + l.length, marksI m l.length) := by
  unfold laws_markIntS.f
  exact markIntS_loop l.length h m h0 h1 l.length 0 l m (by omega) rfl (by omega) (by simp)

theorem FnExactOrder : laws_FnExactOrder.PureR := by
  intro M F A m0 m1 l step ⟨hm, _⟩ ⟨hf, _⟩ ⟨ha, _⟩ _ _ ⟨hx, _⟩ _
  refine Ev.rounds ?_
  unfold laws_FnExactOrder.f
  obtain ⟨t, ht0, htm, hs⟩ := szEnvelope_ok M F A hm hf ha 1048576 (by omega) (by omega)
  rw [ht0]
  simp only [Option.bind_some, laws_toSum2.f]
  by_cases h : t < 0
  · exact ev_pos h (Ev.now _)
  have hl := hs (by omega)
  refine ev_neg h ?_
  rw [szFuelTankS_eq l _ (by omega) htm hx]
  simp only [Option.bind_some]
  by_cases hb2 : t - l.length < 0
  · rw [if_pos hb2]
    exact ev_pos (by omega) (Ev.now _)
  rw [if_neg hb2]
  refine ev_neg hb2 ?_
  obtain ⟨⟨r, c⟩, hr, h1, h2⟩ := order_both M F A hl m0 m1 (l.map c_FuelTank) (by simp; omega) step
  have hr' : r.length ≤ 60 := hr
  have he := toEnvelope_ev M F A hl
  have hq := toFuelTankS_ev l (by omega)
  have hE := eqEnvelope_ev M F A hl
  have hB := eqBurnS_ev r (by omega)
  have he1 := eqFuelTankS_ev (l.map c_FuelTank) (by simp; omega)
  have k1 := markIntS_ev M (by omega) 1 (by omega) (by omega)
  have k2 := markIntS_ev F (by omega) (1 + (M.length : Int)) (by omega) (by omega)
  have k3 := markIntS_ev A (by omega) (1 + (M.length : Int) + (F.length : Int)) (by omega) (by omega)
  have k4 := markFuelTankS_ev (l.map c_FuelTank) (by simp; omega) (1 + (M.length : Int) + (F.length : Int) + (A.length : Int)) (by omega) (by omega)
  have hi := markBurnS_ev r (by omega) 1 (by omega) (by omega)
  have hh := heldBurnS_ev r.length (by omega) 1 (by omega) (by omega)
  have hme : Ev (fun k => laws_markEnvelope.f k M F A 1) (1 + (M.length : Int) + (F.length : Int) + (A.length : Int), marksI 1 M.length, marksI (1 + (M.length : Int)) F.length, marksI (1 + (M.length : Int) + (F.length : Int)) A.length) := by
    unfold laws_markEnvelope.f
    exact Ev.bind k1 (Ev.bind k2 (Ev.bind k3 (Ev.now _)))
  refine Ev.bind he (Ev.bind hq (Ev.bind h1 (Ev.bind he (Ev.bind hq (Ev.bind h2 (Ev.bind hB (ev_pos (by trivial) (ev_succ ?_))))))))
  simp only [laws_FnExactOrder.j0]
  refine ev_neg (by simp) (Ev.bind he (Ev.bind hE (ev_pos (by trivial) (Ev.bind hq (Ev.bind he1 (ev_pos (by trivial) (Ev.bind hme (Ev.bind k4 (ev_neg (by simp; omega) (Ev.bind hB (ev_pos (by trivial) (ev_succ ?_))))))))))))
  simp only [laws_FnExactOrder.j1, laws_toSum2.f, Option.bind_some]
  refine ev_neg (by simp) (Ev.bind hi (Ev.bind hh (ev_neg (by omega) (ev_pos (by trivial) (Ev.bind he (Ev.bind hq (Ev.bind h2 (Ev.bind hB (ev_pos (by trivial) (ev_succ ?_))))))))))
  simp only [laws_FnExactOrder.j2]
  exact ev_neg (by simp) (Ev.bind hh (ev_neg (by omega) (ev_pos (by trivial) (Ev.now _))))

end Go.Proofs.Yteedbciobdcmaaa.Pure
