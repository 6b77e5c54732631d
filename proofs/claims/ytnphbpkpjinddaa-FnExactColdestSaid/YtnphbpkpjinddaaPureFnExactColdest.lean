/- Proved here: the program's and the reference's Coldest are the same function of the air; no condition. -/
import Derived.Test.YtnphbpkpjinddaaPureDefFnExactColdest
namespace Go.Proofs.Ytnphbpkpjinddaa.Pure
open Go.RowKit Go.Proofs.Ytnphbpkpjinddaa.QFnExactColdest Go.Proofs.YtnphbpkpjinddaaW.PrintWords Go.Proofs.YtnphbpkpjinddaaW.PrintLast Go.Proofs.YtnphbpkpjinddaaW.PrintMore
set_option linter.unusedVariables false
set_option linter.unusedSimpArgs false

theorem ev_pos {c : Prop} [Decidable c] {α : Type} {A B : Nat → Option α} {r : α} (h : c) (k : Ev A r) : Ev (fun n => if c then A n else B n) r := by
  simpa only [if_pos h] using k
theorem ev_neg {c : Prop} [Decidable c] {α : Type} {A B : Nat → Option α} {r : α} (h : ¬ c) (k : Ev B r) : Ev (fun n => if c then A n else B n) r := by
  simpa only [if_neg h] using k
theorem ev_succ {α : Type} {g : Nat → Option α} {r : α} (h : Ev (fun k => g (k + 1)) r) : Ev g r := Ev.step (fun _ => rfl) h
theorem ex_succ {α : Type} {g : Nat → Option α} (h : ∃ r, Ev (fun k => g (k + 1)) r) : ∃ r, Ev g r := by
  obtain ⟨r, h⟩ := h
  exact ⟨r, ev_succ h⟩
theorem ev_one {α : Type} {g : Nat → Option α} {r q : α} (h : Ev g r) (h' : Ev g q) : r = q := by
  obtain ⟨K, hK⟩ := h
  obtain ⟨L, hL⟩ := h'
  have a := hK (max K L) (Nat.le_max_left _ _)
  have b := hL (max K L) (Nat.le_max_right _ _)
  exact Option.some.inj (a.symm.trans b)
theorem ev_bool {α : Type} {A B : Nat → Option α} {r : α} (b : Bool) (h1 : b = true → Ev A r) (h2 : b = false → Ev B r) : Ev (fun n => if b = true then A n else B n) r := by
  cases b with
  | true => exact ev_pos (by trivial) (h1 rfl)
  | false => exact ev_neg (by decide) (h2 rfl)
theorem bool_eq_of_iff {a b : Bool} {p : Prop} (h : a = true ↔ p) (h' : b = true ↔ p) : a = b := by
  rw [Bool.eq_iff_iff]
  exact h.trans h'.symm
theorem w64 {x : Int} (h0 : -9223372036854775808 ≤ x) (h1 : x ≤ 9223372036854775807) : wrap64 x = x := by
  unfold wrap64
  omega
theorem w64_succ {n m : Nat} (h : n < m) (hm : m ≤ 9223372036854775807) : wrap64 ((n : Int) + 1) = ((n + 1 : Nat) : Int) := by
  unfold wrap64
  omega
theorem rd_nat (l : List Int) (n : Nat) : rd l (n : Int) = l.getD n 0 := by
  unfold rd
  rw [Int.toNat_natCast]
theorem take_set_succ {α : Type} (d : α) {x0 x3 : List α} {n : Nat} (h : n < x0.length) (hl : x3.length = x0.length) (ht : x3.take n = x0.take n) : (x3.set n (x0.getD n d)).take (n + 1) = x0.take (n + 1) := by
  apply List.ext_getElem?
  intro i
  simp only [List.getElem?_take, List.getElem?_set]
  by_cases hi : i < n + 1
  · rw [if_pos hi, if_pos hi]
    by_cases he : n = i
    · subst he
      rw [if_pos rfl, if_pos (by omega), List.getD_eq_getElem?_getD, List.getElem?_eq_getElem h]
      rfl
    · rw [if_neg he]
      have := congrArg (fun l => l[i]?) ht
      simpa only [List.getElem?_take, if_pos (show i < n by omega)] using this
  · rw [if_neg hi, if_neg hi]
theorem u8_bounds {l : List Int} (h : ∀ x ∈ l, 0 ≤ x ∧ x ≤ 255) (n : Nat) : 0 ≤ l.getD n 0 ∧ l.getD n 0 ≤ 255 := by
  rw [List.getD_eq_getElem?_getD]
  cases e : l[n]? with
  | none => simp
  | some x =>
    exact h x (List.mem_of_getElem? e)
theorem getD_map {α β : Type} (c : α → β) (l : List α) (n : Nat) (d : α) : (l.map c).getD n (c d) = c (l.getD n d) := by
  simp only [List.getD_eq_getElem?_getD, List.getElem?_map]
  cases l[n]? <;> rfl
/-- It ends, with true just where p holds. -/
def EvB (g : Nat → Option Bool) (p : Prop) : Prop := ∃ b, Ev g b ∧ (b = true ↔ p)
theorem EvB.iff {g : Nat → Option Bool} {p q : Prop} (h : EvB g p) (h' : p ↔ q) : EvB g q := by
  obtain ⟨b, hb, ib⟩ := h
  exact ⟨b, hb, ib.trans h'⟩
theorem EvB.dec {c : Prop} [Decidable c] : EvB (fun _ => some (decide c)) c := ⟨decide c, Ev.now _, decide_eq_true_iff⟩
theorem EvB.ite {c : Prop} [Decidable c] {A : Nat → Option Bool} {p : Prop} (h : EvB A p) : EvB (fun n => if c then A n else some false) (c ∧ p) := by
  obtain ⟨b, hb, ib⟩ := h
  by_cases hc : c
  · exact ⟨b, ev_pos hc hb, ⟨fun h => ⟨hc, ib.1 h⟩, fun h => ib.2 h.2⟩⟩
  · exact ⟨false, ev_neg hc (Ev.now _), ⟨fun h => (Bool.false_ne_true h).elim, fun h => absurd h.1 hc⟩⟩
theorem EvB.ite_not {c : Prop} [Decidable c] {A : Nat → Option Bool} {p : Prop} (h : EvB A p) : EvB (fun n => if c then some false else A n) (¬ c ∧ p) := by
  obtain ⟨b, hb, ib⟩ := h
  by_cases hc : c
  · exact ⟨false, ev_pos hc (Ev.now _), ⟨fun h => (Bool.false_ne_true h).elim, fun h => absurd hc h.1⟩⟩
  · exact ⟨b, ev_neg hc hb, ⟨fun h => ⟨hc, ib.1 h⟩, fun h => ib.2 h.2⟩⟩
theorem EvB.bind {g A : Nat → Option Bool} {p q : Prop} (h : EvB g p) (h' : EvB A q) : EvB (fun n => (g n).bind fun t => if t = true then A n else some false) (p ∧ q) := by
  obtain ⟨b, hb, ib⟩ := h
  obtain ⟨c, hc, ic⟩ := h'
  cases b with
  | true => exact ⟨c, Ev.bind hb (ev_pos rfl hc), ⟨fun h => ⟨ib.1 rfl, ic.1 h⟩, fun h => ic.2 h.2⟩⟩
  | false => exact ⟨false, Ev.bind hb (ev_neg (by decide) (Ev.now _)), ⟨fun h => (Bool.false_ne_true h).elim, fun h => absurd (ib.2 h.1) (by decide)⟩⟩
theorem EvB.last {g : Nat → Option Bool} {p : Prop} (h : EvB g p) : EvB (fun n => (g n).bind fun t => some t) p := by
  obtain ⟨b, hb, ib⟩ := h
  exact ⟨b, Ev.bind hb (Ev.now _), ib⟩
theorem EvB.same {g g' : Nat → Option Bool} {p : Prop} (h : EvB g p) (h' : EvB g' p) : ∃ b, Ev g b ∧ Ev g' b ∧ (b = true ↔ p) := by
  obtain ⟨b, hb, ib⟩ := h
  obtain ⟨c, hc, ic⟩ := h'
  obtain rfl : c = b := bool_eq_of_iff ic ib
  exact ⟨c, hb, hc, ib⟩
theorem EvB.bindE {g A B : Nat → Option Bool} {p q : Prop} (hB : Ev B false) (h : EvB g p) (h' : EvB A q) : EvB (fun n => (g n).bind fun t => if t = true then A n else B n) (p ∧ q) := by
  obtain ⟨b, hb, ib⟩ := h
  obtain ⟨c, hc, ic⟩ := h'
  cases b with
  | true => exact ⟨c, Ev.bind hb (ev_pos rfl hc), ⟨fun h => ⟨ib.1 rfl, ic.1 h⟩, fun h => ic.2 h.2⟩⟩
  | false => exact ⟨false, Ev.bind hb (ev_neg (by decide) hB), ⟨fun h => (Bool.false_ne_true h).elim, fun h => absurd (ib.2 h.1) (by decide)⟩⟩
theorem EvB.iteE {c : Prop} [Decidable c] {A B : Nat → Option Bool} {p : Prop} (hB : Ev B false) (h : EvB A p) : EvB (fun n => if c then A n else B n) (c ∧ p) := by
  obtain ⟨b, hb, ib⟩ := h
  by_cases hc : c
  · exact ⟨b, ev_pos hc hb, ⟨fun h => ⟨hc, ib.1 h⟩, fun h => ib.2 h.2⟩⟩
  · exact ⟨false, ev_neg hc hB, ⟨fun h => (Bool.false_ne_true h).elim, fun h => absurd h.1 hc⟩⟩
theorem EvB.bindN {g : Nat → Option Bool} {J : Nat → Bool → Option Bool} {p q : Prop} (hB : Ev (fun n => J n true) false) (h : EvB g p) (h' : EvB (fun n => J n false) q) : EvB (fun n => (g n).bind fun t => J n (!t)) (p ∧ q) := by
  obtain ⟨b, hb, ib⟩ := h
  obtain ⟨c, hc, ic⟩ := h'
  cases b with
  | true => exact ⟨c, Ev.bind hb hc, ⟨fun h => ⟨ib.1 rfl, ic.1 h⟩, fun h => ic.2 h.2⟩⟩
  | false => exact ⟨false, Ev.bind hb hB, ⟨fun h => (Bool.false_ne_true h).elim, fun h => absurd (ib.2 h.1) (by decide)⟩⟩
theorem EvB.succ {g : Nat → Option Bool} {p : Prop} (h : EvB (fun k => g (k + 1)) p) : EvB g p := by
  obtain ⟨b, hb, ib⟩ := h
  exact ⟨b, ev_succ hb, ib⟩
theorem EvB.true_ {p : Prop} (h : p) : EvB (fun _ => some true) p := ⟨true, Ev.now _, ⟨fun _ => h, fun _ => rfl⟩⟩
theorem EvB.false_ {p : Prop} (h : ¬ p) : EvB (fun _ => some false) p := ⟨false, Ev.now _, ⟨fun e => (Bool.false_ne_true e).elim, fun e => absurd e h⟩⟩
theorem EvB.pos {c : Prop} [Decidable c] {A B : Nat → Option Bool} {p : Prop} (hc : c) (h : EvB A p) : EvB (fun n => if c then A n else B n) p := by
  simpa only [if_pos hc] using h
theorem EvB.neg {c : Prop} [Decidable c] {A B : Nat → Option Bool} {p : Prop} (hc : ¬ c) (h : EvB B p) : EvB (fun n => if c then A n else B n) p := by
  simpa only [if_neg hc] using h

theorem szIntS_eq (l : List Int) (m : Int) (h0 : 0 ≤ m) (h1 : m ≤ 1048576) (hl : l.length ≤ 9223372036854775807) : laws_szIntS.f l m = some (if m - l.length < 0 then -1 else m - l.length) := by
  unfold laws_szIntS.f
  rw [w64 (x := m - (l.length : Int)) (by omega) (by omega)]
  by_cases h : m - (l.length : Int) < 0
  · rw [if_pos h, if_pos h]
  · rw [if_neg h, if_neg h]

theorem toIntS_loop (x0 : List Int) (hx : x0.length ≤ 9223372036854775807) : ∀ (d n : Nat) (x3 : List Int), n + d = x0.length → x3.length = x0.length → x3.take n = x0.take n → Ev (fun k => laws_toIntS.l0 k x0 x3 (n : Int)) x0 := by
  intro d
  induction d with
  | zero =>
    intro n x3 hn hl ht
    refine ev_succ ?_
    simp only [laws_toIntS.l0]
    refine ev_neg (by omega) ?_
    have e : x3 = x0 := by rw [← List.take_of_length_le (l := x3) (i := n) (by omega), ht, List.take_of_length_le (by omega)]
    rw [e]
    exact Ev.now _
  | succ d ih =>
    intro n x3 hn hl ht
    refine ev_succ ?_
    simp only [laws_toIntS.l0]
    refine ev_pos (by omega) (ev_pos (by omega) (ev_pos (by omega) ?_))
    rw [rd_nat, Int.toNat_natCast, w64_succ (m := x0.length) (by omega) hx]
    exact ih (n + 1) _ (by omega) (by simpa using hl) (take_set_succ 0 (by omega) hl ht)
theorem toIntS_ev (l : List Int) (h : l.length ≤ 35184372088832) : Ev (fun k => laws_toIntS.f k l) l := by
  unfold laws_toIntS.f
  refine ev_pos (by omega) (ev_pos (by omega) ?_)
  exact toIntS_loop l (by omega) l.length 0 _ (by omega) (by simp) (by simp)

theorem eqIntS_loop (x0 : List Int) (hx : x0.length ≤ 9223372036854775807) : ∀ (d n : Nat), n + d = x0.length → Ev (fun k => laws_eqIntS.l0 k x0 x0 (n : Int)) true := by
  intro d
  induction d with
  | zero =>
    intro n hn
    refine ev_succ ?_
    simp only [laws_eqIntS.l0]
    exact ev_neg (by omega) (Ev.now _)
  | succ d ih =>
    intro n hn
    refine ev_succ ?_
    simp only [laws_eqIntS.l0]
    refine ev_pos (by omega) (ev_pos (by omega) (ev_pos (by omega) (ev_pos (by trivial) ?_)))
    rw [w64_succ (m := x0.length) (by omega) hx]
    exact ih (n + 1) (by omega)
theorem eqIntS_ev (l : List Int) (h : l.length ≤ 9223372036854775807) : Ev (fun k => laws_eqIntS.f k l l) true := by
  unfold laws_eqIntS.f
  exact ev_pos (by trivial) (eqIntS_loop l h l.length 0 (by omega))

theorem spec_in_eq (a b c : Int) : spec_l1In.f a b c = some (decide (b ≤ a ∧ a ≤ c)) := by
  unfold spec_l1In.f
  split
  · congr 1
    rw [decide_eq_decide]
    omega
  · congr 1
    symm
    rw [decide_eq_false_iff_not]
    omega
theorem spec_in_evB (a b c : Int) : EvB (fun _ => spec_l1In.f a b c) (b ≤ a ∧ a ≤ c) := by
  rw [spec_in_eq]
  exact EvB.dec

theorem impl_in_eq (a b c : Int) : impl_in.f a b c = some (decide (b ≤ a ∧ a ≤ c)) := by
  unfold impl_in.f
  split
  · congr 1
    rw [decide_eq_decide]
    omega
  · congr 1
    symm
    rw [decide_eq_false_iff_not]
    omega
theorem impl_in_evB (a b c : Int) : EvB (fun _ => impl_in.f a b c) (b ≤ a ∧ a ≤ c) := by
  rw [impl_in_eq]
  exact EvB.dec

def AllIn (l : List Int) (lo hi : Int) : Prop := ∀ n, n < l.length → lo ≤ l.getD n 0 ∧ l.getD n 0 ≤ hi
def Rise (l : List Int) : Prop := ∀ n, n + 1 < l.length → l.getD n 0 < l.getD (n + 1) 0

theorem spec_all_loop (l : List Int) (lo hi : Int) (hx : l.length ≤ 9223372036854775807) : ∀ (d n : Nat), n + d = l.length → (∀ m, m < n → lo ≤ l.getD m 0 ∧ l.getD m 0 ≤ hi) → ∃ b, Ev (fun k => spec_l1All.l0 k l lo hi (n : Int)) b ∧ (b = true ↔ AllIn l lo hi) := by
  intro d
  induction d with
  | zero =>
    intro n hn hm
    refine ⟨true, ?_, ⟨fun _ m h => hm m (by omega), fun _ => rfl⟩⟩
    refine ev_succ ?_
    simp only [spec_l1All.l0]
    exact ev_neg (by omega) (Ev.now _)
  | succ d ih =>
    intro n hn hm
    by_cases h : lo ≤ l.getD n 0 ∧ l.getD n 0 ≤ hi
    · obtain ⟨b, hb, hiff⟩ := ih (n + 1) (by omega) (fun m hm' => by
        by_cases e : m = n
        · subst e; exact h
        · exact hm m (by omega))
      refine ⟨b, ?_, hiff⟩
      refine ev_succ ?_
      simp only [spec_l1All.l0, spec_in_eq, Option.bind_some]
      refine ev_pos (by omega) (ev_pos (by omega) (ev_pos (by rw [rd_nat]; simpa using h) ?_))
      rw [w64_succ (m := l.length) (by omega) hx]
      exact hb
    · refine ⟨false, ?_, ⟨fun h' => (Bool.false_ne_true h').elim, fun h' => absurd (h' n (by omega)) h⟩⟩
      refine ev_succ ?_
      simp only [spec_l1All.l0, spec_in_eq, Option.bind_some]
      exact ev_pos (by omega) (ev_pos (by omega) (ev_neg (by rw [rd_nat]; simpa using h) (Ev.now _)))
theorem spec_all_ev (l : List Int) (lo hi : Int) (hx : l.length ≤ 9223372036854775807) : ∃ b, Ev (fun k => spec_l1All.f k l lo hi) b ∧ (b = true ↔ AllIn l lo hi) := by
  unfold spec_l1All.f
  exact spec_all_loop l lo hi hx l.length 0 (by omega) (fun m h => by omega)

theorem impl_all_loop (l : List Int) (lo hi : Int) (hx : l.length ≤ 9223372036854775807) : ∀ (d n : Nat), n + d = l.length → (∀ m, m < n → lo ≤ l.getD m 0 ∧ l.getD m 0 ≤ hi) → ∃ b, Ev (fun k => impl_allIn.l0 k lo hi l (l.length : Int) (n : Int)) b ∧ (b = true ↔ AllIn l lo hi) := by
  intro d
  induction d with
  | zero =>
    intro n hn hm
    refine ⟨true, ?_, ⟨fun _ m h => hm m (by omega), fun _ => rfl⟩⟩
    refine ev_succ ?_
    simp only [impl_allIn.l0]
    exact ev_neg (by omega) (Ev.now _)
  | succ d ih =>
    intro n hn hm
    by_cases h : lo ≤ l.getD n 0 ∧ l.getD n 0 ≤ hi
    · obtain ⟨b, hb, hiff⟩ := ih (n + 1) (by omega) (fun m hm' => by
        by_cases e : m = n
        · subst e; exact h
        · exact hm m (by omega))
      refine ⟨b, ?_, hiff⟩
      refine ev_succ ?_
      simp only [impl_allIn.l0, impl_in_eq, Option.bind_some]
      refine ev_pos (by omega) (ev_pos (by omega) (ev_pos (by omega) (ev_pos (by rw [rd_nat]; simpa using h) ?_)))
      rw [w64_succ (m := l.length) (by omega) hx]
      exact hb
    · refine ⟨false, ?_, ⟨fun h' => (Bool.false_ne_true h').elim, fun h' => absurd (h' n (by omega)) h⟩⟩
      refine ev_succ ?_
      simp only [impl_allIn.l0, impl_in_eq, Option.bind_some]
      exact ev_pos (by omega) (ev_pos (by omega) (ev_pos (by omega) (ev_neg (by rw [rd_nat]; simpa using h) (Ev.now _))))
theorem impl_all_ev (l : List Int) (lo hi : Int) (hx : l.length ≤ 9223372036854775807) : ∃ b, Ev (fun k => impl_allIn.f k l lo hi) b ∧ (b = true ↔ AllIn l lo hi) := by
  unfold impl_allIn.f
  exact impl_all_loop l lo hi hx l.length 0 (by omega) (fun m h => by omega)

theorem spec_rise_loop (l : List Int) (hx : l.length ≤ 9223372036854775807) : ∀ (d n : Nat), 1 ≤ n → l.length ≤ n + d → (∀ m, m + 1 < n → l.getD m 0 < l.getD (m + 1) 0) → ∃ b, Ev (fun k => spec_l1Rise.l0 k l (n : Int)) b ∧ (b = true ↔ Rise l) := by
  intro d
  induction d with
  | zero =>
    intro n h1 hn hm
    refine ⟨true, ?_, ⟨fun _ m h => hm m (by omega), fun _ => rfl⟩⟩
    refine ev_succ ?_
    simp only [spec_l1Rise.l0]
    exact ev_neg (by omega) (Ev.now _)
  | succ d ih =>
    intro n h1 hn hm
    by_cases hlt : n < l.length
    · have e1 : wrap64 ((n : Int) - 1) = ((n - 1 : Nat) : Int) := by rw [w64 (by omega) (by omega)]; omega
      by_cases h : l.getD (n - 1) 0 < l.getD n 0
      · obtain ⟨b, hb, hiff⟩ := ih (n + 1) (by omega) (by omega) (fun m hm' => by
          by_cases e : m + 1 = n
          · have : m = n - 1 := by omega
            subst this
            rw [e]; exact h
          · exact hm m (by omega))
        refine ⟨b, ?_, hiff⟩
        refine ev_succ ?_
        simp only [spec_l1Rise.l0, e1, rd_nat]
        refine ev_pos (by omega) (ev_pos (by omega) (ev_pos (by omega) (ev_pos (by omega) (ev_neg (by omega) ?_))))
        rw [w64_succ (m := l.length) (by omega) hx]
        exact hb
      · refine ⟨false, ?_, ⟨fun h' => (Bool.false_ne_true h').elim, fun h' => absurd (by have := h' (n - 1) (by omega); rwa [show n - 1 + 1 = n by omega] at this) h⟩⟩
        refine ev_succ ?_
        simp only [spec_l1Rise.l0, e1, rd_nat]
        exact ev_pos (by omega) (ev_pos (by omega) (ev_pos (by omega) (ev_pos (by omega) (ev_pos (by omega) (Ev.now _)))))
    · refine ⟨true, ?_, ⟨fun _ m h => hm m (by omega), fun _ => rfl⟩⟩
      refine ev_succ ?_
      simp only [spec_l1Rise.l0]
      exact ev_neg (by omega) (Ev.now _)
theorem spec_rise_ev (l : List Int) (hx : l.length ≤ 9223372036854775807) : ∃ b, Ev (fun k => spec_l1Rise.f k l) b ∧ (b = true ↔ Rise l) := by
  unfold spec_l1Rise.f
  exact spec_rise_loop l hx l.length 1 (by omega) (by omega) (fun m h => by omega)

theorem impl_asc_loop (l : List Int) (lo hi : Int) (hx : l.length ≤ 9223372036854775807) : ∀ (d n : Nat), n + d = l.length → (∀ m, m < n → lo ≤ l.getD m 0 ∧ l.getD m 0 ≤ hi) → (∀ m, m + 1 < n → l.getD m 0 < l.getD (m + 1) 0) → ∃ b, Ev (fun k => impl_ascends.l0 k l lo hi l (l.length : Int) (n : Int)) b ∧ (b = true ↔ AllIn l lo hi ∧ Rise l) := by
  intro d
  induction d with
  | zero =>
    intro n hn hm hr
    refine ⟨true, ?_, ⟨fun _ => ⟨fun m h => hm m (by omega), fun m h => hr m (by omega)⟩, fun _ => rfl⟩⟩
    refine ev_succ ?_
    simp only [impl_ascends.l0]
    exact ev_neg (by omega) (Ev.now _)
  | succ d ih =>
    intro n hn hm hr
    by_cases h : lo ≤ l.getD n 0 ∧ l.getD n 0 ≤ hi
    · have hm1 : ∀ m, m < n + 1 → lo ≤ l.getD m 0 ∧ l.getD m 0 ≤ hi := fun m hm' => by
        by_cases e : m = n
        · subst e; exact h
        · exact hm m (by omega)
      by_cases h0 : n = 0
      · obtain ⟨b, hb, hiff⟩ := ih (n + 1) (by omega) hm1 (fun m hm' => by omega)
        refine ⟨b, ?_, hiff⟩
        refine ev_succ ?_
        simp only [impl_ascends.l0, impl_in_eq, Option.bind_some]
        refine ev_pos (by omega) (ev_pos (by omega) (ev_pos (by omega) (ev_pos (by rw [rd_nat]; simpa using h) (ev_neg (by omega) ?_))))
        rw [w64_succ (m := l.length) (by omega) hx]
        exact hb
      · have e1 : wrap64 ((n : Int) - 1) = ((n - 1 : Nat) : Int) := by rw [w64 (by omega) (by omega)]; omega
        by_cases h2 : l.getD (n - 1) 0 < l.getD n 0
        · obtain ⟨b, hb, hiff⟩ := ih (n + 1) (by omega) hm1 (fun m hm' => by
            by_cases e : m + 1 = n
            · have : m = n - 1 := by omega
              subst this
              rw [e]; exact h2
            · exact hr m (by omega))
          refine ⟨b, ?_, hiff⟩
          refine ev_succ ?_
          simp only [impl_ascends.l0, impl_in_eq, Option.bind_some, e1, rd_nat]
          refine ev_pos (by omega) (ev_pos (by omega) (ev_pos (by omega) (ev_pos (by simpa using h) (ev_pos (by omega) (ev_pos (by omega) (ev_pos (by omega) (ev_neg (by omega) ?_)))))))
          rw [w64_succ (m := l.length) (by omega) hx]
          exact hb
        · refine ⟨false, ?_, ⟨fun h' => (Bool.false_ne_true h').elim, fun h' => absurd (by have := h'.2 (n - 1) (by omega); rwa [show n - 1 + 1 = n by omega] at this) h2⟩⟩
          refine ev_succ ?_
          simp only [impl_ascends.l0, impl_in_eq, Option.bind_some, e1, rd_nat]
          exact ev_pos (by omega) (ev_pos (by omega) (ev_pos (by omega) (ev_pos (by simpa using h) (ev_pos (by omega) (ev_pos (by omega) (ev_pos (by omega) (ev_pos (by omega) (Ev.now _))))))))
    · refine ⟨false, ?_, ⟨fun h' => (Bool.false_ne_true h').elim, fun h' => absurd (h'.1 n (by omega)) h⟩⟩
      refine ev_succ ?_
      simp only [impl_ascends.l0, impl_in_eq, Option.bind_some]
      exact ev_pos (by omega) (ev_pos (by omega) (ev_pos (by omega) (ev_neg (by rw [rd_nat]; simpa using h) (Ev.now _))))
theorem impl_asc_ev (l : List Int) (lo hi : Int) (hx : l.length ≤ 9223372036854775807) : ∃ b, Ev (fun k => impl_ascends.f k l lo hi) b ∧ (b = true ↔ AllIn l lo hi ∧ Rise l) := by
  unfold impl_ascends.f
  exact impl_asc_loop l lo hi hx l.length 0 (by omega) (fun m h => by omega) (fun m h => by omega)

def AirP (B : Int) (S T : List Int) : Prop := (-100 ≤ B ∧ B ≤ 100) ∧ (1 ≤ S.length ∧ S.length ≤ 6) ∧ S.length = T.length ∧ Rise T ∧ AllIn T 1 1000 ∧ AllIn S (-20) 20
theorem szAir_ok (B : Int) (X Y : List Int) (hx : X.length ≤ 9223372036854775807) (hy : Y.length ≤ 9223372036854775807) : ∃ t, laws_szAir.f B X Y 1048576 = some t ∧ (0 ≤ t → X.length + Y.length ≤ 1048576) := by
  unfold laws_szAir.f
  rw [szIntS_eq X _ (by omega) (by omega) hx]
  simp only [Option.bind_some]
  by_cases h : (1048576 : Int) - X.length < 0
  · rw [if_pos h, if_pos (by omega)]; exact ⟨-1, rfl, by omega⟩
  · rw [if_neg h, if_neg h, szIntS_eq Y _ (by omega) (by omega) hy]
    simp only [Option.bind_some]
    by_cases h' : (1048576 : Int) - X.length - Y.length < 0
    · rw [if_pos h', if_pos (by omega)]; exact ⟨-1, rfl, by omega⟩
    · rw [if_neg h', if_neg h']; exact ⟨_, rfl, by omega⟩
theorem toAir_ev (B : Int) (X Y : List Int) (h : X.length + Y.length ≤ 1048576) : Ev (fun k => laws_toAir.f k B X Y) (B, X, Y) := by
  unfold laws_toAir.f
  exact Ev.bind (toIntS_ev X (by omega)) (Ev.bind (toIntS_ev Y (by omega)) (Ev.now _))
theorem eqAir_ev (B : Int) (X Y : List Int) (h : X.length + Y.length ≤ 1048576) : Ev (fun k => laws_eqAir.f k B X Y B X Y) true := by
  unfold laws_eqAir.f
  exact ev_pos (by trivial) (Ev.bind (eqIntS_ev X (by omega)) (ev_pos (by trivial) (Ev.bind (eqIntS_ev Y (by omega)) (ev_pos (by trivial) (Ev.now _)))))
theorem spec_air_ev (B : Int) (X Y : List Int) (h : X.length + Y.length ≤ 1048576) : EvB (fun k => spec_AirOk.f k B X Y) (AirP B X Y) := by
  unfold spec_AirOk.f
  exact (EvB.bind (spec_in_evB _ _ _) (EvB.bind (spec_in_evB _ _ _) (EvB.ite (EvB.bind (spec_rise_ev Y (by omega)) (EvB.bind (spec_all_ev Y _ _ (by omega)) (EvB.last (spec_all_ev X _ _ (by omega)))))))).iff (by
    unfold AirP
    constructor
    · rintro ⟨h1, h2, h3, h4, h5, h6⟩; exact ⟨h1, by omega, by omega, h4, h5, h6⟩
    · rintro ⟨h1, h2, h3, h4, h5, h6⟩; exact ⟨h1, by omega, by omega, h4, h5, h6⟩)
theorem impl_air_ev (B : Int) (X Y : List Int) (h : X.length + Y.length ≤ 1048576) : EvB (fun k => impl_AirOk.f k B X Y) (AirP B X Y) := by
  unfold impl_AirOk.f
  exact (EvB.bind (impl_in_evB _ _ _) (EvB.bind (impl_in_evB _ _ _) (EvB.ite (EvB.bind (impl_all_ev X _ _ (by omega)) (EvB.last (impl_asc_ev Y _ _ (by omega))))))).iff (by
    unfold AirP
    constructor
    · rintro ⟨h1, h2, h3, h4, h5, h6⟩; exact ⟨h1, by omega, by omega, h6, h5, h4⟩
    · rintro ⟨h1, h2, h3, h4, h5, h6⟩; exact ⟨h1, by omega, by omega, h6, h5, h4⟩)

theorem warm_mul {s x : Int} (h0 : -20 ≤ s) (h1 : s ≤ 20) (h2 : 0 ≤ x) (h3 : x ≤ 1000) : -20000 ≤ s * x ∧ s * x ≤ 20000 := by
  have a : s * x ≤ 20 * x := Int.mul_le_mul_of_nonneg_right h1 h2
  have b : -20 * x ≤ s * x := Int.mul_le_mul_of_nonneg_right h0 h2
  omega
theorem spec_min_eq (a b : Int) : spec_l1Min.f a b = some (mn b a) := by
  unfold spec_l1Min.f mn
  by_cases h : a < b
  · rw [if_pos h, if_pos h]
  · rw [if_neg h, if_neg h]
theorem warm_bd {h t f : Int} (h0 : 0 ≤ h) (h1 : h ≤ 1000) (t1 : 0 ≤ t) (t2 : t ≤ 1000) (f0 : 0 ≤ f) (f1 : f ≤ 1000) : 0 ≤ mx (mn h t - f) 0 ∧ mx (mn h t - f) 0 ≤ 1000 := by
  unfold mx mn
  split <;> split <;> omega
theorem warm_step {h t f : Int} (hf : f < h) (ht : f < t) : mx (mn h t - f) 0 = mn t h - f := by
  unfold mx mn
  split <;> split <;> split <;> omega
theorem warm_none {h t f : Int} (hf : h ≤ f) (ht : f < t) : mx (mn h t - f) 0 = 0 := by
  unfold mx mn
  split <;> split <;> omega
theorem mn_bd {h t : Int} (h0 : 0 ≤ h) (h1 : h ≤ 1000) (t1 : 0 ≤ t) (t2 : t ≤ 1000) : 0 ≤ mn h t ∧ mn h t ≤ 1000 := by
  unfold mn
  split <;> omega
theorem warm_room {o p : Int} {n : Nat} (h3 : -(100 + 20000 * (n : Int)) ≤ o) (h4 : o ≤ 100 + 20000 * (n : Int)) (m1 : -20000 ≤ p) (m2 : p ≤ 20000) : -(100 + 20000 * ((n + 1 : Nat) : Int)) ≤ o + p ∧ o + p ≤ 100 + 20000 * ((n + 1 : Nat) : Int) := by
  rw [Int.natCast_add]
  constructor <;> omega
theorem warm_loop (B : Int) (S T : List Int) (hP : AirP B S T) (h : Int) : ∀ (d n : Nat) (o from_ : Int), n + d = T.length → 0 ≤ from_ → from_ ≤ 1000 → (n < T.length → from_ < T.getD n 0) → -(100 + 20000 * (n : Int)) ≤ o → o ≤ 100 + 20000 * (n : Int) → 0 ≤ h → h ≤ 1000 →
    ∃ r, Ev (fun k => impl_warm.l0 k h o from_ T (T.length : Int) (n : Int) B S T) r ∧ Ev (fun k => spec_Warm.l0 k h o from_ (n : Int) B S T) (r, true) ∧ (h ≤ from_ → r = o) := by
  obtain ⟨hB, hl, hlen, hrise, hT, hS⟩ := hP
  intro d
  induction d with
  | zero =>
    intro n o from_ hn h0 h1 h2 h3 h4 h5 h6
    refine ⟨o, ev_succ ?_, ev_succ ?_, fun _ => rfl⟩
    · simp only [impl_warm.l0]
      exact ev_neg (by omega) (Ev.now _)
    · simp only [spec_Warm.l0]
      exact ev_neg (by omega) (Ev.now _)
  | succ d ih =>
    intro n o from_ hn h0 h1 h2 h3 h4 h5 h6
    have hlt : n < T.length := by omega
    have hf := h2 hlt
    obtain ⟨t1, t2⟩ := hT n hlt
    obtain ⟨s1, s2⟩ := hS n (by omega)
    have t0 : 0 ≤ T.getD n 0 := by omega
    have hm := warm_bd h5 h6 t0 t2 h0 h1
    obtain ⟨b1, b2⟩ := mn_bd h5 h6 t0 t2
    obtain ⟨b3, b4⟩ := mn_bd t0 t2 h5 h6
    obtain ⟨m1, m2⟩ := warm_mul s1 s2 hm.1 hm.2
    have hnext : n + 1 < T.length → T.getD n 0 < T.getD (n + 1) 0 := fun h' => hrise n h'
    have e1 : wrap64 (mn h (T.getD n 0) - from_) = mn h (T.getD n 0) - from_ := w64 (by omega) (by omega)
    have e2 : wrap64 (S.getD n 0 * mx (mn h (T.getD n 0) - from_) 0) = S.getD n 0 * mx (mn h (T.getD n 0) - from_) 0 := w64 (by omega) (by omega)
    have e3 : wrap64 (o + S.getD n 0 * mx (mn h (T.getD n 0) - from_) 0) = o + S.getD n 0 * mx (mn h (T.getD n 0) - from_) 0 := w64 (by omega) (by omega)
    have e4 := w64_succ (m := T.length) (n := n) hlt (by omega)
    obtain ⟨r, hr1, hr2, hr3⟩ := ih (n + 1) (o + S.getD n 0 * mx (mn h (T.getD n 0) - from_) 0) (T.getD n 0) (by omega) t0 t2 hnext (warm_room h3 h4 m1 m2).1 (warm_room h3 h4 m1 m2).2 h5 h6
    have k1 : (n : Int) < (T.length : Int) := Int.ofNat_lt.mpr hlt
    have k2 : (n : Int) < (S.length : Int) := by rw [hlen]; exact k1
    have k0 := Int.natCast_nonneg n
    refine ⟨r, ev_succ ?_, ?_, fun hle => ?_⟩
    · simp only [impl_warm.l0, rd_nat, e1, e2, e3, e4]
      exact ev_pos k1 (ev_pos (Int.natCast_nonneg n) (ev_pos k1 (ev_pos k2 hr1)))
    · by_cases hfh : from_ < h
      · refine ev_succ ?_
        have e5 := warm_step (h := h) hfh hf
        have e6 : wrap64 (mn (T.getD n 0) h - from_) = mn (T.getD n 0) h - from_ := w64 (by omega) (by omega)
        rw [e5] at e2 e3 hr2
        simp only [spec_Warm.l0, rd_nat, spec_min_eq, Option.bind_some, e6, e2, e3, e4]
        exact ev_pos k1 (ev_pos hfh (ev_pos k0 (ev_pos k2 hr2)))
      · have e5 := warm_none (h := h) (by omega : h ≤ from_) hf
        have hr : r = o := by
          have := hr3 (by omega)
          rw [e5] at this
          omega
        rw [hr]
        refine ev_succ ?_
        simp only [spec_Warm.l0]
        exact ev_pos k1 (ev_neg hfh (Ev.now _))
    · have e5 := warm_none hle hf
      have := hr3 (by omega)
      rw [e5] at this
      omega
theorem warm_start (B : Int) (S T : List Int) (hP : AirP B S T) (h : Int) (h0 : 0 ≤ h) (h1 : h ≤ 1000) : ∃ r, Ev (fun k => impl_warm.f k B S T h) r ∧ Ev (fun k => spec_Warm.l0 k h B 0 0 B S T) (r, true) := by
  obtain ⟨r, a, b, _⟩ := warm_loop B S T hP h T.length 0 B 0 (by omega) (by omega) (by omega) (fun hl => by have := (hP.2.2.2.2.1 0 hl).1; omega) (by have := hP.1; omega) (by have := hP.1; omega) h0 h1
  exact ⟨r, by unfold impl_warm.f; exact a, b⟩
theorem last_eq {T : List Int} (h : 1 ≤ T.length) (h' : T.length ≤ 1048576) : wrap64 ((T.length : Int) - 1) = ((T.length - 1 : Nat) : Int) := by
  rw [w64 (by omega) (by omega)]
  omega

def prev (T : List Int) (n : Nat) : Int := if n = 0 then 0 else T.getD (n - 1) 0
theorem prev_zero (T : List Int) : prev T 0 = 0 := rfl
theorem prev_succ (T : List Int) (n : Nat) : prev T (n + 1) = T.getD n 0 := rfl
def wsum (S T : List Int) (h : Int) : Nat → Int
  | 0 => 0
  | n + 1 => wsum S T h n + S.getD n 0 * mx (mn h (T.getD n 0) - prev T n) 0
def full (S T : List Int) : Nat → Int
  | 0 => 0
  | n + 1 => full S T n + S.getD n 0 * (T.getD n 0 - prev T n)
theorem rise_le {T : List Int} (h : Rise T) : ∀ (d i : Nat), i + d < T.length → T.getD i 0 ≤ T.getD (i + d) 0 := by
  intro d
  induction d with
  | zero => intro i _; exact Int.le_refl _
  | succ d ih =>
    intro i hi
    have a := ih i (by omega)
    have b := h (i + d) (by omega)
    have e : i + (d + 1) = i + d + 1 := by omega
    rw [e]
    omega
theorem prev_bd {B : Int} {S T : List Int} (hP : AirP B S T) {n : Nat} (hn : n ≤ T.length) : 0 ≤ prev T n ∧ prev T n ≤ 1000 := by
  unfold prev
  by_cases h : n = 0
  · simp [h]
  · simp only [if_neg h]
    have := hP.2.2.2.2.1 (n - 1) (by omega)
    omega
theorem prev_lt {B : Int} {S T : List Int} (hP : AirP B S T) {n : Nat} (hn : n < T.length) : prev T n < T.getD n 0 := by
  unfold prev
  by_cases h : n = 0
  · subst h
    have := hP.2.2.2.2.1 0 hn
    simp only [if_pos]
    omega
  · simp only [if_neg h]
    have := hP.2.2.2.1 (n - 1) (by omega)
    rwa [show n - 1 + 1 = n by omega] at this
theorem wsum_bd {B : Int} {S T : List Int} (hP : AirP B S T) {h : Int} (h0 : 0 ≤ h) (h1 : h ≤ 1000) : ∀ n : Nat, n ≤ T.length → -(100 + 20000 * (n : Int)) ≤ B + wsum S T h n ∧ B + wsum S T h n ≤ 100 + 20000 * (n : Int) := by
  intro n
  induction n with
  | zero =>
    intro _
    have := hP.1
    simp only [wsum]
    constructor <;> omega
  | succ n ih =>
    intro hn
    obtain ⟨a, b⟩ := ih (by omega)
    obtain ⟨t1, t2⟩ := hP.2.2.2.2.1 n (by omega)
    obtain ⟨s1, s2⟩ := hP.2.2.2.2.2 n (by have := hP.2.2.1; omega)
    obtain ⟨p1, p2⟩ := prev_bd hP (n := n) (by omega)
    have hm := warm_bd h0 h1 (by omega : 0 ≤ T.getD n 0) t2 p1 p2
    obtain ⟨m1, m2⟩ := warm_mul s1 s2 hm.1 hm.2
    have := warm_room a b m1 m2
    simp only [wsum]
    rw [← Int.add_assoc]
    exact this
theorem impl_warm_val {B : Int} {S T : List Int} (hP : AirP B S T) {h : Int} (h0 : 0 ≤ h) (h1 : h ≤ 1000) : ∀ (d n : Nat), n + d = T.length → Ev (fun k => impl_warm.l0 k h (B + wsum S T h n) (prev T n) T (T.length : Int) (n : Int) B S T) (B + wsum S T h T.length) := by
  intro d
  induction d with
  | zero =>
    intro n hn
    refine ev_succ ?_
    simp only [impl_warm.l0]
    rw [show n = T.length by omega]
    exact ev_neg (by omega) (Ev.now _)
  | succ d ih =>
    intro n hn
    have hlt : n < T.length := by omega
    obtain ⟨t1, t2⟩ := hP.2.2.2.2.1 n hlt
    obtain ⟨s1, s2⟩ := hP.2.2.2.2.2 n (by have := hP.2.2.1; omega)
    obtain ⟨p1, p2⟩ := prev_bd hP (n := n) (by omega)
    have t0 : 0 ≤ T.getD n 0 := by omega
    have hm := warm_bd h0 h1 t0 t2 p1 p2
    obtain ⟨b1, b2⟩ := mn_bd h0 h1 t0 t2
    obtain ⟨m1, m2⟩ := warm_mul s1 s2 hm.1 hm.2
    obtain ⟨a, b⟩ := wsum_bd hP h0 h1 (n + 1) (by omega)
    have hl6 := hP.2.1
    have hle := hP.2.2.1
    simp only [wsum] at a b
    rw [← Int.add_assoc] at a b
    have e1 : wrap64 (mn h (T.getD n 0) - prev T n) = mn h (T.getD n 0) - prev T n := w64 (by omega) (by omega)
    have e2 : wrap64 (S.getD n 0 * mx (mn h (T.getD n 0) - prev T n) 0) = S.getD n 0 * mx (mn h (T.getD n 0) - prev T n) 0 := w64 (by omega) (by omega)
    have e3 : wrap64 (B + wsum S T h n + S.getD n 0 * mx (mn h (T.getD n 0) - prev T n) 0) = B + wsum S T h n + S.getD n 0 * mx (mn h (T.getD n 0) - prev T n) 0 := w64 (by omega) (by omega)
    have e4 := w64_succ (m := T.length) (n := n) hlt (by omega)
    have k1 : (n : Int) < (T.length : Int) := Int.ofNat_lt.mpr hlt
    have k2 : (n : Int) < (S.length : Int) := by rw [hle]; exact k1
    have := ih (n + 1) (by omega)
    simp only [wsum, prev_succ] at this
    refine ev_succ ?_
    simp only [impl_warm.l0, rd_nat, e1, e2, e3, e4]
    rw [← Int.add_assoc] at this
    exact ev_pos k1 (ev_pos (Int.natCast_nonneg n) (ev_pos k1 (ev_pos k2 this)))
theorem impl_warm_ev {B : Int} {S T : List Int} (hP : AirP B S T) {h : Int} (h0 : 0 ≤ h) (h1 : h ≤ 1000) : Ev (fun k => impl_warm.f k B S T h) (B + wsum S T h T.length) := by
  have := impl_warm_val hP h0 h1 T.length 0 (by omega)
  simp only [wsum, prev_zero, Int.add_zero] at this
  unfold impl_warm.f
  exact this
theorem wsum_low {B : Int} {S T : List Int} (hP : AirP B S T) {h : Int} {n : Nat} (hn : n ≤ T.length) (hh : prev T n ≤ h) : ∀ m : Nat, m ≤ n → wsum S T h m = full S T m := by
  intro m
  induction m with
  | zero => intro _; rfl
  | succ m ih =>
    intro hm
    have a : T.getD m 0 ≤ prev T n := by
      unfold prev
      rw [if_neg (by omega)]
      have := rise_le hP.2.2.2.1 (n - 1 - m) m (by omega)
      rwa [show m + (n - 1 - m) = n - 1 by omega] at this
    have b := prev_lt hP (n := m) (by omega)
    simp only [wsum, full, ih (by omega)]
    have c : mx (mn h (T.getD m 0) - prev T m) 0 = T.getD m 0 - prev T m := by
      unfold mx mn
      split <;> split <;> omega
    rw [c]
theorem wsum_high {B : Int} {S T : List Int} (hP : AirP B S T) {h : Int} {n : Nat} (hh : h ≤ T.getD n 0) : ∀ d : Nat, n + 1 + d ≤ T.length → wsum S T h (n + 1 + d) = wsum S T h (n + 1) := by
  intro d
  induction d with
  | zero => intro _; rfl
  | succ d ih =>
    intro hd
    have a : T.getD n 0 ≤ prev T (n + 1 + d) := by
      unfold prev
      rw [if_neg (by omega)]
      have := rise_le hP.2.2.2.1 d n (by omega)
      rwa [show n + d = n + 1 + d - 1 by omega] at this
    rw [show n + 1 + (d + 1) = n + 1 + d + 1 by omega]
    simp only [wsum]
    rw [show n + 1 + d = n + (1 + d) by omega] at *
    have ih := ih (by omega)
    simp only [wsum] at ih
    rw [ih]
    have c : mx (mn h (T.getD (n + (1 + d)) 0) - prev T (n + (1 + d))) 0 = 0 := by
      unfold mx mn
      split <;> split <;> omega
    rw [c, Int.mul_zero, Int.add_zero]
def seg (B : Int) (S T : List Int) (n : Nat) (h : Int) : Int := B + full S T n + S.getD n 0 * (h - prev T n)
theorem seg_ev {B : Int} {S T : List Int} (hP : AirP B S T) {h : Int} {n : Nat} (hn : n < T.length) (h0 : prev T n ≤ h) (h1 : h ≤ T.getD n 0) : B + wsum S T h T.length = seg B S T n h := by
  have a := wsum_high hP h1 (T.length - (n + 1)) (by omega)
  rw [show n + 1 + (T.length - (n + 1)) = T.length by omega] at a
  rw [a]
  simp only [wsum]
  rw [wsum_low hP (by omega) h0 n (by omega)]
  have c : mx (mn h (T.getD n 0) - prev T n) 0 = h - prev T n := by
    unfold mx mn
    split <;> split <;> omega
  rw [c]
  unfold seg
  omega
theorem seg_top {B : Int} {S T : List Int} (n : Nat) : seg B S T n (T.getD n 0) = B + full S T (n + 1) := by
  unfold seg
  simp only [full]
  omega
theorem seg_prev {B : Int} {S T : List Int} (n : Nat) : seg B S T n (prev T n) = B + full S T n := by
  unfold seg
  rw [Int.sub_self, Int.mul_zero, Int.add_zero]
theorem seg_step {B : Int} {S T : List Int} (n : Nat) (h : Int) : seg B S T n (h + 1) = seg B S T n h + S.getD n 0 := by
  unfold seg
  rw [show h + 1 - prev T n = (h - prev T n) + 1 by omega, Int.mul_add, Int.mul_one]
  omega
theorem seg_up {B : Int} {S T : List Int} (n : Nat) {h : Int} (hs : 0 ≤ S.getD n 0) (hh : prev T n ≤ h) : B + full S T n ≤ seg B S T n h := by
  unfold seg
  have := Int.mul_nonneg hs (by omega : 0 ≤ h - prev T n)
  omega
def low (B : Int) (S T : List Int) : Nat → Int × Int
  | 0 => (0, B)
  | n + 1 => if B + full S T (n + 1) < (low B S T n).2 then (T.getD n 0, B + full S T (n + 1)) else low B S T n
theorem low_le (B : Int) (S T : List Int) : ∀ n, (low B S T n).2 ≤ B + full S T n := by
  intro n
  cases n with
  | zero => simp only [low, full]; omega
  | succ n =>
    simp only [low]
    split
    · exact Int.le_refl _
    · omega
theorem top_bd {B : Int} {S T : List Int} (hP : AirP B S T) {n : Nat} (hn : n < T.length) : T.getD n 0 ≤ T.getD (T.length - 1) 0 := by
  have := rise_le hP.2.2.2.1 (T.length - 1 - n) n (by omega)
  rwa [show n + (T.length - 1 - n) = T.length - 1 by omega] at this
theorem spec_warm_val {B : Int} {S T : List Int} (hP : AirP B S T) (hl : S.length + T.length ≤ 1048576) {n : Nat} (hn : n < T.length) : Ev (fun k => spec_Warm.f k B S T (T.getD n 0)) (B + full S T (n + 1), true) := by
  obtain ⟨t1, t2⟩ := hP.2.2.2.2.1 n hn
  obtain ⟨r, hr1, hr2⟩ := warm_start B S T hP (T.getD n 0) (by omega) t2
  have e := ev_one hr1 (impl_warm_ev hP (h := T.getD n 0) (by omega) t2)
  rw [seg_ev hP hn (by have := prev_lt hP hn; omega) (Int.le_refl _), seg_top] at e
  subst e
  obtain ⟨b, hb, ib⟩ := spec_air_ev B S T hl
  have hbt : b = true := ib.2 hP
  subst hbt
  have hpos : 1 ≤ T.length := by omega
  have e := last_eq hpos (by omega)
  have tb := top_bd hP hn
  unfold spec_Warm.f
  simp only [e, rd_nat, spec_in_eq, Option.bind_some]
  have hh : 0 ≤ T.getD n 0 ∧ T.getD n 0 ≤ T.getD (T.length - 1) 0 := ⟨by omega, tb⟩
  simp only [decide_eq_true hh]
  refine Ev.bind hb (ev_pos rfl (ev_pos (by omega) (ev_pos (by omega) (ev_succ ?_))))
  simp only [spec_Warm.j0]
  exact ev_neg (by decide) hr2
theorem spec_cold_loop {B : Int} {S T : List Int} (hP : AirP B S T) (hl : S.length + T.length ≤ 1048576) : ∀ (d n : Nat), n + d = T.length → Ev (fun k => spec_Coldest.l0 k (low B S T n).1 (low B S T n).2 (n : Int) B S T) ((low B S T T.length).1, (low B S T T.length).2, true) := by
  intro d
  induction d with
  | zero =>
    intro n hn
    refine ev_succ ?_
    simp only [spec_Coldest.l0]
    rw [show n = T.length by omega]
    exact ev_neg (by omega) (Ev.now _)
  | succ d ih =>
    intro n hn
    have hlt : n < T.length := by omega
    have := ih (n + 1) (by omega)
    refine ev_succ ?_
    simp only [spec_Coldest.l0, rd_nat]
    rw [w64_succ (m := T.length) (n := n) hlt (by omega)]
    refine ev_pos (by omega) (ev_pos (by omega) (Ev.bind (spec_warm_val hP hl hlt) ?_))
    by_cases h : B + full S T (n + 1) < (low B S T n).2
    · simp only [low, if_pos h] at this
      exact ev_pos h this
    · simp only [low, if_neg h] at this
      exact ev_neg h this
def pick (B : Int) (S T : List Int) (n : Nat) (h : Int) : Int × Int := if seg B S T n (h - 1) < (low B S T n).2 then (h - 1, seg B S T n (h - 1)) else low B S T n
theorem pick_step (B : Int) (S T : List Int) (n : Nat) {h : Int} (hh : prev T n < h) : (if seg B S T n h < (pick B S T n h).2 then (h, seg B S T n h) else pick B S T n h) = pick B S T n (h + 1) := by
  have e := seg_step (B := B) (S := S) (T := T) n (h - 1)
  rw [show h - 1 + 1 = h by omega] at e
  have hle := low_le B S T n
  unfold pick
  rw [show h + 1 - 1 = h by omega]
  by_cases c : seg B S T n (h - 1) < (low B S T n).2
  · rw [if_pos c]
    have hs : S.getD n 0 < 0 := by
      by_cases c' : 0 ≤ S.getD n 0
      · have := seg_up (B := B) (S := S) (T := T) n c' (h := h - 1) (by omega)
        omega
      · omega
    rw [if_pos (by show seg B S T n h < seg B S T n (h - 1); omega), if_pos (by omega)]
  · rw [if_neg c]
theorem pick_first (B : Int) (S T : List Int) (n : Nat) : pick B S T n (prev T n + 1) = low B S T n := by
  unfold pick
  rw [show prev T n + 1 - 1 = prev T n by omega, seg_prev]
  have := low_le B S T n
  rw [if_neg (by omega)]
theorem pick_last (B : Int) (S T : List Int) (n : Nat) : pick B S T n (T.getD n 0 + 1) = low B S T (n + 1) := by
  unfold pick
  rw [show T.getD n 0 + 1 - 1 = T.getD n 0 by omega, seg_top]
  rfl
theorem impl_cold_loop {B : Int} {S T : List Int} (hP : AirP B S T) : ∀ (d n : Nat) (h : Int), n < T.length → prev T n < h → h ≤ T.getD n 0 → T.getD (T.length - 1) 0 - h = d → Ev (fun k => impl_Coldest.l0 k (pick B S T n h).1 (pick B S T n h).2 (T.getD (T.length - 1) 0 + 1) h B S T) ((low B S T T.length).1, (low B S T T.length).2, true) := by
  intro d
  induction d with
  | zero =>
    intro n h hn h0 h1 hd
    have hb := top_bd hP hn
    have p0 := (prev_bd hP (n := n) (by omega)).1
    have tb := hP.2.2.2.2.1 n hn
    have hh : h = T.getD n 0 := by omega
    have hlast : n + 1 = T.length := by
      by_cases e : n + 1 = T.length
      · exact e
      · exfalso
        have a := hP.2.2.2.1 n (by omega)
        have := top_bd hP (n := n + 1) (by omega)
        omega
    have w := impl_warm_ev hP (h := h) (by omega) (by omega)
    rw [seg_ev hP hn (by omega) h1] at w
    have st := pick_step B S T n h0
    have lst := pick_last B S T n
    rw [← hh, hlast] at lst
    have fin : ∀ p : Int × Int, p = low B S T T.length → Ev (fun k => impl_Coldest.l0 k p.1 p.2 (T.getD (T.length - 1) 0 + 1) (h + 1) B S T) ((low B S T T.length).1, (low B S T T.length).2, true) := by
      intro p hp
      rw [hp]
      refine ev_succ ?_
      simp only [impl_Coldest.l0]
      exact ev_neg (by omega) (Ev.now _)
    refine ev_succ ?_
    simp only [impl_Coldest.l0]
    rw [w64 (x := h + 1) (by omega) (by omega)]
    refine ev_pos (by omega) (Ev.bind w ?_)
    by_cases c : seg B S T n h < (pick B S T n h).2
    · rw [if_pos c] at st
      exact ev_pos c (fin (h, seg B S T n h) (st.trans lst))
    · rw [if_neg c] at st
      exact ev_neg c (fin _ (st.trans lst))
  | succ d ih =>
    intro n h hn h0 h1 hd
    have hb := top_bd hP hn
    have p0 := (prev_bd hP (n := n) (by omega)).1
    have tb := hP.2.2.2.2.1 n hn
    have w := impl_warm_ev hP (h := h) (by omega) (by omega)
    rw [seg_ev hP hn (by omega) h1] at w
    have st := pick_step B S T n h0
    have nxt : ∀ p : Int × Int, p = pick B S T n (h + 1) → Ev (fun k => impl_Coldest.l0 k p.1 p.2 (T.getD (T.length - 1) 0 + 1) (h + 1) B S T) ((low B S T T.length).1, (low B S T T.length).2, true) := by
      intro p hp
      rw [hp]
      by_cases e : h = T.getD n 0
      · by_cases hl : n + 1 = T.length
        · exfalso
          rw [show T.length - 1 = n by omega] at hd
          omega
        · have := ih (n + 1) (h + 1) (by omega) (by rw [prev_succ]; omega) (by have := hP.2.2.2.1 n (by omega); omega) (by omega)
          have pf := pick_first B S T (n + 1)
          rw [prev_succ, ← e] at pf
          have pl := pick_last B S T n
          rw [← e] at pl
          rw [pf, ← pl] at this
          exact this
      · exact ih n (h + 1) hn (by omega) (by omega) (by omega)
    refine ev_succ ?_
    simp only [impl_Coldest.l0]
    rw [w64 (x := h + 1) (by omega) (by omega)]
    refine ev_pos (by omega) (Ev.bind w ?_)
    by_cases c : seg B S T n h < (pick B S T n h).2
    · rw [if_pos c] at st
      exact ev_pos c (nxt (h, seg B S T n h) st)
    · rw [if_neg c] at st
      exact ev_neg c (nxt _ st)
theorem impl_cold_start {B : Int} {S T : List Int} (hP : AirP B S T) : Ev (fun k => impl_Coldest.l0 k 0 B (T.getD (T.length - 1) 0 + 1) 0 B S T) ((low B S T T.length).1, (low B S T T.length).2, true) := by
  have hl : 1 ≤ T.length := by have := hP.2.1; have := hP.2.2.1; omega
  have t0 := hP.2.2.2.2.1 0 (by omega)
  have tb := top_bd hP (n := 0) (by omega)
  have tl := hP.2.2.2.2.1 (T.length - 1) (by omega)
  have w := impl_warm_ev hP (h := 0) (by omega) (by omega)
  rw [seg_ev hP (n := 0) (by omega) (by rw [prev_zero]; omega) (by omega)] at w
  have e : seg B S T 0 0 = B := by
    have := seg_prev (B := B) (S := S) (T := T) 0
    rw [prev_zero] at this
    rw [this]
    simp only [full]
    omega
  rw [e] at w
  have st := impl_cold_loop hP (T.getD (T.length - 1) 0 - 1).toNat 0 1 (by omega) (by rw [prev_zero]; omega) (by omega) (by omega)
  have pf := pick_first B S T 0
  rw [prev_zero, show (0 : Int) + 1 = 1 from rfl] at pf
  rw [pf] at st
  refine ev_succ ?_
  simp only [impl_Coldest.l0]
  rw [w64 (x := 0 + 1) (by omega) (by omega)]
  exact ev_pos (by omega) (Ev.bind w (ev_neg (by omega) st))
theorem cold_ev (B : Int) (S T : List Int) (hl : S.length + T.length ≤ 1048576) : ∃ r, Ev (fun k => spec_Coldest.f k B S T) r ∧ Ev (fun k => impl_Coldest.f k B S T) r := by
  obtain ⟨b, hb, hc, ib⟩ := (spec_air_ev B S T hl).same (impl_air_ev B S T hl)
  unfold spec_Coldest.f impl_Coldest.f
  cases b with
  | false => exact ⟨(0, 0, false), Ev.bind hb (ev_neg (by decide) (Ev.now _)), Ev.bind hc (ev_neg (by decide) (Ev.now _))⟩
  | true =>
    have hP := ib.1 rfl
    have hpos : 1 ≤ T.length := by have := hP.2.1; have := hP.2.2.1; omega
    have e := last_eq hpos (by omega)
    have tl := hP.2.2.2.2.1 (T.length - 1) (by omega)
    simp only [e, rd_nat]
    rw [w64 (x := T.getD (T.length - 1) 0 + 1) (by omega) (by omega)]
    exact ⟨_, Ev.bind hb (ev_pos rfl (spec_cold_loop hP hl T.length 0 (by omega))), Ev.bind hc (ev_pos rfl (ev_pos (by omega) (ev_pos (by omega) (impl_cold_start hP))))⟩

theorem FnExactColdest : laws_FnExactColdest.PureR := by
  intro B X Y _ ⟨hx, _⟩ ⟨hy, _⟩
  refine Ev.rounds ?_
  unfold laws_FnExactColdest.f
  obtain ⟨t, ht, hs⟩ := szAir_ok B X Y hx hy
  rw [ht]
  simp only [Option.bind_some]
  by_cases h0 : t < 0
  · exact ev_pos h0 (Ev.now _)
  have hl := hs (by omega)
  obtain ⟨r, h1, h2⟩ := cold_ev B X Y hl
  have ha := toAir_ev B X Y hl
  refine ev_neg h0 (Ev.bind ha (Ev.bind h1 (Ev.bind ha (Ev.bind h2 (ev_pos (by trivial) (ev_pos (by trivial) (ev_succ ?_)))))))
  simp only [laws_FnExactColdest.j0]
  exact ev_neg (by simp) (Ev.bind ha (Ev.bind (eqAir_ev B X Y hl) (ev_pos (by trivial) (Ev.now _))))

end Go.Proofs.Ytnphbpkpjinddaa.Pure
