/- Proved here: the program's and the reference's Leaves are the same function of the envelope, the dry sum, the tanks and the plan; no condition. -/
import Derived.Test.YteedbciobdcmaaaPureDefFnExactLeaves
namespace Go.Proofs.Yteedbciobdcmaaa.Pure
open Go.RowKit Go.Proofs.Yteedbciobdcmaaa.QFnExactLeaves Go.Proofs.YteedbciobdcmaaaW.PrintWords Go.Proofs.YteedbciobdcmaaaW.PrintLast Go.Proofs.YteedbciobdcmaaaW.PrintMore
set_option linter.unusedVariables false
set_option linter.unusedSimpArgs false

theorem ev_pos {c : Prop} [Decidable c] {α : Type} {A B : Nat → Option α} {r : α} (h : c) (k : Ev A r) : Ev (fun n => if c then A n else B n) r := by
  simpa only [if_pos h] using k
theorem ev_neg {c : Prop} [Decidable c] {α : Type} {A B : Nat → Option α} {r : α} (h : ¬ c) (k : Ev B r) : Ev (fun n => if c then A n else B n) r := by
  simpa only [if_neg h] using k
theorem ev_succ {α : Type} {g : Nat → Option α} {r : α} (h : Ev (fun k => g (k + 1)) r) : Ev g r := Ev.step (fun _ => rfl) h
theorem ex_succ {α : Type} {g : Nat → Option α} (h : ∃ r, Ev (fun k => g (k + 1)) r) : ∃ r, Ev g r := by
  obtain ⟨r, h⟩ := h
  exact ⟨r, ev_succ h⟩
theorem ev_one {α : Type} {g : Nat → Option α} {r q : α} (h : Ev g r) (h' : Ev g q) : r = q := by
  obtain ⟨K, hK⟩ := h
  obtain ⟨L, hL⟩ := h'
  have a := hK (max K L) (Nat.le_max_left _ _)
  have b := hL (max K L) (Nat.le_max_right _ _)
  exact Option.some.inj (a.symm.trans b)
theorem ev_bool {α : Type} {A B : Nat → Option α} {r : α} (b : Bool) (h1 : b = true → Ev A r) (h2 : b = false → Ev B r) : Ev (fun n => if b = true then A n else B n) r := by
  cases b with
  | true => exact ev_pos (by trivial) (h1 rfl)
  | false => exact ev_neg (by decide) (h2 rfl)
theorem bool_eq_of_iff {a b : Bool} {p : Prop} (h : a = true ↔ p) (h' : b = true ↔ p) : a = b := by
  rw [Bool.eq_iff_iff]
  exact h.trans h'.symm
theorem w64 {x : Int} (h0 : -9223372036854775808 ≤ x) (h1 : x ≤ 9223372036854775807) : wrap64 x = x := by
  unfold wrap64
  omega
theorem w64_succ {n m : Nat} (h : n < m) (hm : m ≤ 9223372036854775807) : wrap64 ((n : Int) + 1) = ((n + 1 : Nat) : Int) := by
  unfold wrap64
  omega
theorem rd_nat (l : List Int) (n : Nat) : rd l (n : Int) = l.getD n 0 := by
  unfold rd
  rw [Int.toNat_natCast]
theorem take_set_succ {α : Type} (d : α) {x0 x3 : List α} {n : Nat} (h : n < x0.length) (hl : x3.length = x0.length) (ht : x3.take n = x0.take n) : (x3.set n (x0.getD n d)).take (n + 1) = x0.take (n + 1) := by
  apply List.ext_getElem?
  intro i
  simp only [List.getElem?_take, List.getElem?_set]
  by_cases hi : i < n + 1
  · rw [if_pos hi, if_pos hi]
    by_cases he : n = i
    · subst he
      rw [if_pos rfl, if_pos (by omega), List.getD_eq_getElem?_getD, List.getElem?_eq_getElem h]
      rfl
    · rw [if_neg he]
      have := congrArg (fun l => l[i]?) ht
      simpa only [List.getElem?_take, if_pos (show i < n by omega)] using this
  · rw [if_neg hi, if_neg hi]
theorem u8_bounds {l : List Int} (h : ∀ x ∈ l, 0 ≤ x ∧ x ≤ 255) (n : Nat) : 0 ≤ l.getD n 0 ∧ l.getD n 0 ≤ 255 := by
  rw [List.getD_eq_getElem?_getD]
  cases e : l[n]? with
  | none => simp
  | some x =>
    exact h x (List.mem_of_getElem? e)
theorem getD_map {α β : Type} (c : α → β) (l : List α) (n : Nat) (d : α) : (l.map c).getD n (c d) = c (l.getD n d) := by
  simp only [List.getD_eq_getElem?_getD, List.getElem?_map]
  cases l[n]? <;> rfl
/-- It ends, with true just where p holds. -/
def EvB (g : Nat → Option Bool) (p : Prop) : Prop := ∃ b, Ev g b ∧ (b = true ↔ p)
theorem EvB.iff {g : Nat → Option Bool} {p q : Prop} (h : EvB g p) (h' : p ↔ q) : EvB g q := by
  obtain ⟨b, hb, ib⟩ := h
  exact ⟨b, hb, ib.trans h'⟩
theorem EvB.dec {c : Prop} [Decidable c] : EvB (fun _ => some (decide c)) c := ⟨decide c, Ev.now _, decide_eq_true_iff⟩
theorem EvB.ite {c : Prop} [Decidable c] {A : Nat → Option Bool} {p : Prop} (h : EvB A p) : EvB (fun n => if c then A n else some false) (c ∧ p) := by
  obtain ⟨b, hb, ib⟩ := h
  by_cases hc : c
  · exact ⟨b, ev_pos hc hb, ⟨fun h => ⟨hc, ib.1 h⟩, fun h => ib.2 h.2⟩⟩
  · exact ⟨false, ev_neg hc (Ev.now _), ⟨fun h => (Bool.false_ne_true h).elim, fun h => absurd h.1 hc⟩⟩
theorem EvB.ite_not {c : Prop} [Decidable c] {A : Nat → Option Bool} {p : Prop} (h : EvB A p) : EvB (fun n => if c then some false else A n) (¬ c ∧ p) := by
  obtain ⟨b, hb, ib⟩ := h
  by_cases hc : c
  · exact ⟨false, ev_pos hc (Ev.now _), ⟨fun h => (Bool.false_ne_true h).elim, fun h => absurd hc h.1⟩⟩
  · exact ⟨b, ev_neg hc hb, ⟨fun h => ⟨hc, ib.1 h⟩, fun h => ib.2 h.2⟩⟩
theorem EvB.bind {g A : Nat → Option Bool} {p q : Prop} (h : EvB g p) (h' : EvB A q) : EvB (fun n => (g n).bind fun t => if t = true then A n else some false) (p ∧ q) := by
  obtain ⟨b, hb, ib⟩ := h
  obtain ⟨c, hc, ic⟩ := h'
  cases b with
  | true => exact ⟨c, Ev.bind hb (ev_pos rfl hc), ⟨fun h => ⟨ib.1 rfl, ic.1 h⟩, fun h => ic.2 h.2⟩⟩
  | false => exact ⟨false, Ev.bind hb (ev_neg (by decide) (Ev.now _)), ⟨fun h => (Bool.false_ne_true h).elim, fun h => absurd (ib.2 h.1) (by decide)⟩⟩
theorem EvB.last {g : Nat → Option Bool} {p : Prop} (h : EvB g p) : EvB (fun n => (g n).bind fun t => some t) p := by
  obtain ⟨b, hb, ib⟩ := h
  exact ⟨b, Ev.bind hb (Ev.now _), ib⟩
theorem EvB.same {g g' : Nat → Option Bool} {p : Prop} (h : EvB g p) (h' : EvB g' p) : ∃ b, Ev g b ∧ Ev g' b ∧ (b = true ↔ p) := by
  obtain ⟨b, hb, ib⟩ := h
  obtain ⟨c, hc, ic⟩ := h'
  obtain rfl : c = b := bool_eq_of_iff ic ib
  exact ⟨c, hb, hc, ib⟩
theorem EvB.bindE {g A B : Nat → Option Bool} {p q : Prop} (hB : Ev B false) (h : EvB g p) (h' : EvB A q) : EvB (fun n => (g n).bind fun t => if t = true then A n else B n) (p ∧ q) := by
  obtain ⟨b, hb, ib⟩ := h
  obtain ⟨c, hc, ic⟩ := h'
  cases b with
  | true => exact ⟨c, Ev.bind hb (ev_pos rfl hc), ⟨fun h => ⟨ib.1 rfl, ic.1 h⟩, fun h => ic.2 h.2⟩⟩
  | false => exact ⟨false, Ev.bind hb (ev_neg (by decide) hB), ⟨fun h => (Bool.false_ne_true h).elim, fun h => absurd (ib.2 h.1) (by decide)⟩⟩
theorem EvB.iteE {c : Prop} [Decidable c] {A B : Nat → Option Bool} {p : Prop} (hB : Ev B false) (h : EvB A p) : EvB (fun n => if c then A n else B n) (c ∧ p) := by
  obtain ⟨b, hb, ib⟩ := h
  by_cases hc : c
  · exact ⟨b, ev_pos hc hb, ⟨fun h => ⟨hc, ib.1 h⟩, fun h => ib.2 h.2⟩⟩
  · exact ⟨false, ev_neg hc hB, ⟨fun h => (Bool.false_ne_true h).elim, fun h => absurd h.1 hc⟩⟩
theorem EvB.bindN {g : Nat → Option Bool} {J : Nat → Bool → Option Bool} {p q : Prop} (hB : Ev (fun n => J n true) false) (h : EvB g p) (h' : EvB (fun n => J n false) q) : EvB (fun n => (g n).bind fun t => J n (!t)) (p ∧ q) := by
  obtain ⟨b, hb, ib⟩ := h
  obtain ⟨c, hc, ic⟩ := h'
  cases b with
  | true => exact ⟨c, Ev.bind hb hc, ⟨fun h => ⟨ib.1 rfl, ic.1 h⟩, fun h => ic.2 h.2⟩⟩
  | false => exact ⟨false, Ev.bind hb hB, ⟨fun h => (Bool.false_ne_true h).elim, fun h => absurd (ib.2 h.1) (by decide)⟩⟩
theorem EvB.succ {g : Nat → Option Bool} {p : Prop} (h : EvB (fun k => g (k + 1)) p) : EvB g p := by
  obtain ⟨b, hb, ib⟩ := h
  exact ⟨b, ev_succ hb, ib⟩
theorem EvB.true_ {p : Prop} (h : p) : EvB (fun _ => some true) p := ⟨true, Ev.now _, ⟨fun _ => h, fun _ => rfl⟩⟩
theorem EvB.false_ {p : Prop} (h : ¬ p) : EvB (fun _ => some false) p := ⟨false, Ev.now _, ⟨fun e => (Bool.false_ne_true e).elim, fun e => absurd e h⟩⟩
theorem EvB.pos {c : Prop} [Decidable c] {A B : Nat → Option Bool} {p : Prop} (hc : c) (h : EvB A p) : EvB (fun n => if c then A n else B n) p := by
  simpa only [if_pos hc] using h
theorem EvB.neg {c : Prop} [Decidable c] {A B : Nat → Option Bool} {p : Prop} (hc : ¬ c) (h : EvB B p) : EvB (fun n => if c then A n else B n) p := by
  simpa only [if_neg hc] using h

theorem szIntS_eq (l : List Int) (m : Int) (h0 : 0 ≤ m) (h1 : m ≤ 1048576) (hl : l.length ≤ 9223372036854775807) : laws_szIntS.f l m = some (if m - l.length < 0 then -1 else m - l.length) := by
  unfold laws_szIntS.f
  rw [w64 (x := m - (l.length : Int)) (by omega) (by omega)]
  by_cases h : m - (l.length : Int) < 0
  · rw [if_pos h, if_pos h]
  · rw [if_neg h, if_neg h]

theorem toIntS_loop (x0 : List Int) (hx : x0.length ≤ 9223372036854775807) : ∀ (d n : Nat) (x3 : List Int), n + d = x0.length → x3.length = x0.length → x3.take n = x0.take n → Ev (fun k => laws_toIntS.l0 k x0 x3 (n : Int)) x0 := by
  intro d
  induction d with
  | zero =>
    intro n x3 hn hl ht
    refine ev_succ ?_
    simp only [laws_toIntS.l0]
    refine ev_neg (by omega) ?_
    have e : x3 = x0 := by rw [← List.take_of_length_le (l := x3) (i := n) (by omega), ht, List.take_of_length_le (by omega)]
    rw [e]
    exact Ev.now _
  | succ d ih =>
    intro n x3 hn hl ht
    refine ev_succ ?_
    simp only [laws_toIntS.l0]
    refine ev_pos (by omega) (ev_pos (by omega) (ev_pos (by omega) ?_))
    rw [rd_nat, Int.toNat_natCast, w64_succ (m := x0.length) (by omega) hx]
    exact ih (n + 1) _ (by omega) (by simpa using hl) (take_set_succ 0 (by omega) hl ht)
theorem toIntS_ev (l : List Int) (h : l.length ≤ 35184372088832) : Ev (fun k => laws_toIntS.f k l) l := by
  unfold laws_toIntS.f
  refine ev_pos (by omega) (ev_pos (by omega) ?_)
  exact toIntS_loop l (by omega) l.length 0 _ (by omega) (by simp) (by simp)

theorem eqIntS_loop (x0 : List Int) (hx : x0.length ≤ 9223372036854775807) : ∀ (d n : Nat), n + d = x0.length → Ev (fun k => laws_eqIntS.l0 k x0 x0 (n : Int)) true := by
  intro d
  induction d with
  | zero =>
    intro n hn
    refine ev_succ ?_
    simp only [laws_eqIntS.l0]
    exact ev_neg (by omega) (Ev.now _)
  | succ d ih =>
    intro n hn
    refine ev_succ ?_
    simp only [laws_eqIntS.l0]
    refine ev_pos (by omega) (ev_pos (by omega) (ev_pos (by omega) (ev_pos (by trivial) ?_)))
    rw [w64_succ (m := x0.length) (by omega) hx]
    exact ih (n + 1) (by omega)
theorem eqIntS_ev (l : List Int) (h : l.length ≤ 9223372036854775807) : Ev (fun k => laws_eqIntS.f k l l) true := by
  unfold laws_eqIntS.f
  exact ev_pos (by trivial) (eqIntS_loop l h l.length 0 (by omega))

theorem spec_in_eq (a b c : Int) : spec_l1In.f a b c = some (decide (b ≤ a ∧ a ≤ c)) := by
  unfold spec_l1In.f
  split
  · congr 1
    rw [decide_eq_decide]
    omega
  · congr 1
    symm
    rw [decide_eq_false_iff_not]
    omega
theorem spec_in_evB (a b c : Int) : EvB (fun _ => spec_l1In.f a b c) (b ≤ a ∧ a ≤ c) := by
  rw [spec_in_eq]
  exact EvB.dec

theorem impl_in_eq (a b c : Int) : impl_in.f a b c = some (decide (b ≤ a ∧ a ≤ c)) := by
  unfold impl_in.f
  split
  · congr 1
    rw [decide_eq_decide]
    omega
  · congr 1
    symm
    rw [decide_eq_false_iff_not]
    omega
theorem impl_in_evB (a b c : Int) : EvB (fun _ => impl_in.f a b c) (b ≤ a ∧ a ≤ c) := by
  rw [impl_in_eq]
  exact EvB.dec

def AllIn (l : List Int) (lo hi : Int) : Prop := ∀ n, n < l.length → lo ≤ l.getD n 0 ∧ l.getD n 0 ≤ hi
def Rise (l : List Int) : Prop := ∀ n, n + 1 < l.length → l.getD n 0 < l.getD (n + 1) 0

theorem spec_all_loop (l : List Int) (lo hi : Int) (hx : l.length ≤ 9223372036854775807) : ∀ (d n : Nat), n + d = l.length → (∀ m, m < n → lo ≤ l.getD m 0 ∧ l.getD m 0 ≤ hi) → ∃ b, Ev (fun k => spec_l1All.l0 k l lo hi (n : Int)) b ∧ (b = true ↔ AllIn l lo hi) := by
  intro d
  induction d with
  | zero =>
    intro n hn hm
    refine ⟨true, ?_, ⟨fun _ m h => hm m (by omega), fun _ => rfl⟩⟩
    refine ev_succ ?_
    simp only [spec_l1All.l0]
    exact ev_neg (by omega) (Ev.now _)
  | succ d ih =>
    intro n hn hm
    by_cases h : lo ≤ l.getD n 0 ∧ l.getD n 0 ≤ hi
    · obtain ⟨b, hb, hiff⟩ := ih (n + 1) (by omega) (fun m hm' => by
        by_cases e : m = n
        · subst e; exact h
        · exact hm m (by omega))
      refine ⟨b, ?_, hiff⟩
      refine ev_succ ?_
      simp only [spec_l1All.l0, spec_in_eq, Option.bind_some]
      refine ev_pos (by omega) (ev_pos (by omega) (ev_pos (by rw [rd_nat]; simpa using h) ?_))
      rw [w64_succ (m := l.length) (by omega) hx]
      exact hb
    · refine ⟨false, ?_, ⟨fun h' => (Bool.false_ne_true h').elim, fun h' => absurd (h' n (by omega)) h⟩⟩
      refine ev_succ ?_
      simp only [spec_l1All.l0, spec_in_eq, Option.bind_some]
      exact ev_pos (by omega) (ev_pos (by omega) (ev_neg (by rw [rd_nat]; simpa using h) (Ev.now _)))
theorem spec_all_ev (l : List Int) (lo hi : Int) (hx : l.length ≤ 9223372036854775807) : ∃ b, Ev (fun k => spec_l1All.f k l lo hi) b ∧ (b = true ↔ AllIn l lo hi) := by
  unfold spec_l1All.f
  exact spec_all_loop l lo hi hx l.length 0 (by omega) (fun m h => by omega)

theorem impl_all_loop (l : List Int) (lo hi : Int) (hx : l.length ≤ 9223372036854775807) : ∀ (d n : Nat), n + d = l.length → (∀ m, m < n → lo ≤ l.getD m 0 ∧ l.getD m 0 ≤ hi) → ∃ b, Ev (fun k => impl_allIn.l0 k lo hi l (l.length : Int) (n : Int)) b ∧ (b = true ↔ AllIn l lo hi) := by
  intro d
  induction d with
  | zero =>
    intro n hn hm
    refine ⟨true, ?_, ⟨fun _ m h => hm m (by omega), fun _ => rfl⟩⟩
    refine ev_succ ?_
    simp only [impl_allIn.l0]
    exact ev_neg (by omega) (Ev.now _)
  | succ d ih =>
    intro n hn hm
    by_cases h : lo ≤ l.getD n 0 ∧ l.getD n 0 ≤ hi
    · obtain ⟨b, hb, hiff⟩ := ih (n + 1) (by omega) (fun m hm' => by
        by_cases e : m = n
        · subst e; exact h
        · exact hm m (by omega))
      refine ⟨b, ?_, hiff⟩
      refine ev_succ ?_
      simp only [impl_allIn.l0, impl_in_eq, Option.bind_some]
      refine ev_pos (by omega) (ev_pos (by omega) (ev_pos (by omega) (ev_pos (by rw [rd_nat]; simpa using h) ?_)))
      rw [w64_succ (m := l.length) (by omega) hx]
      exact hb
    · refine ⟨false, ?_, ⟨fun h' => (Bool.false_ne_true h').elim, fun h' => absurd (h' n (by omega)) h⟩⟩
      refine ev_succ ?_
      simp only [impl_allIn.l0, impl_in_eq, Option.bind_some]
      exact ev_pos (by omega) (ev_pos (by omega) (ev_pos (by omega) (ev_neg (by rw [rd_nat]; simpa using h) (Ev.now _))))
theorem impl_all_ev (l : List Int) (lo hi : Int) (hx : l.length ≤ 9223372036854775807) : ∃ b, Ev (fun k => impl_allIn.f k l lo hi) b ∧ (b = true ↔ AllIn l lo hi) := by
  unfold impl_allIn.f
  exact impl_all_loop l lo hi hx l.length 0 (by omega) (fun m h => by omega)

theorem spec_rise_loop (l : List Int) (hx : l.length ≤ 9223372036854775807) : ∀ (d n : Nat), 1 ≤ n → l.length ≤ n + d → (∀ m, m + 1 < n → l.getD m 0 < l.getD (m + 1) 0) → ∃ b, Ev (fun k => spec_l1Rise.l0 k l (n : Int)) b ∧ (b = true ↔ Rise l) := by
  intro d
  induction d with
  | zero =>
    intro n h1 hn hm
    refine ⟨true, ?_, ⟨fun _ m h => hm m (by omega), fun _ => rfl⟩⟩
    refine ev_succ ?_
    simp only [spec_l1Rise.l0]
    exact ev_neg (by omega) (Ev.now _)
  | succ d ih =>
    intro n h1 hn hm
    by_cases hlt : n < l.length
    · have e1 : wrap64 ((n : Int) - 1) = ((n - 1 : Nat) : Int) := by rw [w64 (by omega) (by omega)]; omega
      by_cases h : l.getD (n - 1) 0 < l.getD n 0
      · obtain ⟨b, hb, hiff⟩ := ih (n + 1) (by omega) (by omega) (fun m hm' => by
          by_cases e : m + 1 = n
          · have : m = n - 1 := by omega
            subst this
            rw [e]; exact h
          · exact hm m (by omega))
        refine ⟨b, ?_, hiff⟩
        refine ev_succ ?_
        simp only [spec_l1Rise.l0, e1, rd_nat]
        refine ev_pos (by omega) (ev_pos (by omega) (ev_pos (by omega) (ev_pos (by omega) (ev_neg (by omega) ?_))))
        rw [w64_succ (m := l.length) (by omega) hx]
        exact hb
      · refine ⟨false, ?_, ⟨fun h' => (Bool.false_ne_true h').elim, fun h' => absurd (by have := h' (n - 1) (by omega); rwa [show n - 1 + 1 = n by omega] at this) h⟩⟩
        refine ev_succ ?_
        simp only [spec_l1Rise.l0, e1, rd_nat]
        exact ev_pos (by omega) (ev_pos (by omega) (ev_pos (by omega) (ev_pos (by omega) (ev_pos (by omega) (Ev.now _)))))
    · refine ⟨true, ?_, ⟨fun _ m h => hm m (by omega), fun _ => rfl⟩⟩
      refine ev_succ ?_
      simp only [spec_l1Rise.l0]
      exact ev_neg (by omega) (Ev.now _)
theorem spec_rise_ev (l : List Int) (hx : l.length ≤ 9223372036854775807) : ∃ b, Ev (fun k => spec_l1Rise.f k l) b ∧ (b = true ↔ Rise l) := by
  unfold spec_l1Rise.f
  exact spec_rise_loop l hx l.length 1 (by omega) (by omega) (fun m h => by omega)

theorem impl_asc_loop (l : List Int) (lo hi : Int) (hx : l.length ≤ 9223372036854775807) : ∀ (d n : Nat), n + d = l.length → (∀ m, m < n → lo ≤ l.getD m 0 ∧ l.getD m 0 ≤ hi) → (∀ m, m + 1 < n → l.getD m 0 < l.getD (m + 1) 0) → ∃ b, Ev (fun k => impl_ascends.l0 k l lo hi l (l.length : Int) (n : Int)) b ∧ (b = true ↔ AllIn l lo hi ∧ Rise l) := by
  intro d
  induction d with
  | zero =>
    intro n hn hm hr
    refine ⟨true, ?_, ⟨fun _ => ⟨fun m h => hm m (by omega), fun m h => hr m (by omega)⟩, fun _ => rfl⟩⟩
    refine ev_succ ?_
    simp only [impl_ascends.l0]
    exact ev_neg (by omega) (Ev.now _)
  | succ d ih =>
    intro n hn hm hr
    by_cases h : lo ≤ l.getD n 0 ∧ l.getD n 0 ≤ hi
    · have hm1 : ∀ m, m < n + 1 → lo ≤ l.getD m 0 ∧ l.getD m 0 ≤ hi := fun m hm' => by
        by_cases e : m = n
        · subst e; exact h
        · exact hm m (by omega)
      by_cases h0 : n = 0
      · obtain ⟨b, hb, hiff⟩ := ih (n + 1) (by omega) hm1 (fun m hm' => by omega)
        refine ⟨b, ?_, hiff⟩
        refine ev_succ ?_
        simp only [impl_ascends.l0, impl_in_eq, Option.bind_some]
        refine ev_pos (by omega) (ev_pos (by omega) (ev_pos (by omega) (ev_pos (by rw [rd_nat]; simpa using h) (ev_neg (by omega) ?_))))
        rw [w64_succ (m := l.length) (by omega) hx]
        exact hb
      · have e1 : wrap64 ((n : Int) - 1) = ((n - 1 : Nat) : Int) := by rw [w64 (by omega) (by omega)]; omega
        by_cases h2 : l.getD (n - 1) 0 < l.getD n 0
        · obtain ⟨b, hb, hiff⟩ := ih (n + 1) (by omega) hm1 (fun m hm' => by
            by_cases e : m + 1 = n
            · have : m = n - 1 := by omega
              subst this
              rw [e]; exact h2
            · exact hr m (by omega))
          refine ⟨b, ?_, hiff⟩
          refine ev_succ ?_
          simp only [impl_ascends.l0, impl_in_eq, Option.bind_some, e1, rd_nat]
          refine ev_pos (by omega) (ev_pos (by omega) (ev_pos (by omega) (ev_pos (by simpa using h) (ev_pos (by omega) (ev_pos (by omega) (ev_pos (by omega) (ev_neg (by omega) ?_)))))))
          rw [w64_succ (m := l.length) (by omega) hx]
          exact hb
        · refine ⟨false, ?_, ⟨fun h' => (Bool.false_ne_true h').elim, fun h' => absurd (by have := h'.2 (n - 1) (by omega); rwa [show n - 1 + 1 = n by omega] at this) h2⟩⟩
          refine ev_succ ?_
          simp only [impl_ascends.l0, impl_in_eq, Option.bind_some, e1, rd_nat]
          exact ev_pos (by omega) (ev_pos (by omega) (ev_pos (by omega) (ev_pos (by simpa using h) (ev_pos (by omega) (ev_pos (by omega) (ev_pos (by omega) (ev_pos (by omega) (Ev.now _))))))))
    · refine ⟨false, ?_, ⟨fun h' => (Bool.false_ne_true h').elim, fun h' => absurd (h'.1 n (by omega)) h⟩⟩
      refine ev_succ ?_
      simp only [impl_ascends.l0, impl_in_eq, Option.bind_some]
      exact ev_pos (by omega) (ev_pos (by omega) (ev_pos (by omega) (ev_neg (by rw [rd_nat]; simpa using h) (Ev.now _))))
theorem impl_asc_ev (l : List Int) (lo hi : Int) (hx : l.length ≤ 9223372036854775807) : ∃ b, Ev (fun k => impl_ascends.f k l lo hi) b ∧ (b = true ↔ AllIn l lo hi ∧ Rise l) := by
  unfold impl_ascends.f
  exact impl_asc_loop l lo hi hx l.length 0 (by omega) (fun m h => by omega) (fun m h => by omega)

def Under (F A : List Int) : Prop := ∀ n, n < F.length → F.getD n 0 ≤ A.getD n 0
def EnvP (M F A : List Int) : Prop := (2 ≤ M.length ∧ M.length ≤ 10) ∧ F.length = M.length ∧ A.length = M.length ∧ Rise M ∧ AllIn M 0 400000 ∧ AllIn F (-1000) 1000 ∧ AllIn A (-1000) 1000 ∧ Under F A
theorem szEnvelope_ok (X Y Z : List Int) (hx : X.length ≤ 9223372036854775807) (hy : Y.length ≤ 9223372036854775807) (hz : Z.length ≤ 9223372036854775807) (m : Int) (h0 : 0 ≤ m) (h1 : m ≤ 1048576) : ∃ t, laws_szEnvelope.f X Y Z m = some t ∧ t ≤ m ∧ (0 ≤ t → X.length + Y.length + Z.length ≤ 1048576) := by
  unfold laws_szEnvelope.f
  rw [szIntS_eq X _ (by omega) (by omega) hx]
  simp only [Option.bind_some]
  by_cases h : m - X.length < 0
  · rw [if_pos h, if_pos (by omega)]; exact ⟨-1, rfl, by omega, by omega⟩
  · rw [if_neg h, if_neg h, szIntS_eq Y _ (by omega) (by omega) hy]
    simp only [Option.bind_some]
    by_cases h' : m - X.length - Y.length < 0
    · rw [if_pos h', if_pos (by omega)]; exact ⟨-1, rfl, by omega, by omega⟩
    · rw [if_neg h', if_neg h', szIntS_eq Z _ (by omega) (by omega) hz]
      simp only [Option.bind_some]
      by_cases h2 : m - X.length - Y.length - Z.length < 0
      · rw [if_pos h2, if_pos (by omega)]; exact ⟨-1, rfl, by omega, by omega⟩
      · rw [if_neg h2, if_neg h2]; exact ⟨_, rfl, by omega, by omega⟩
theorem toEnvelope_ev (X Y Z : List Int) (h : X.length + Y.length + Z.length ≤ 1048576) : Ev (fun k => laws_toEnvelope.f k X Y Z) (X, Y, Z) := by
  unfold laws_toEnvelope.f
  exact Ev.bind (toIntS_ev X (by omega)) (Ev.bind (toIntS_ev Y (by omega)) (Ev.bind (toIntS_ev Z (by omega)) (Ev.now _)))
theorem eqEnvelope_ev (X Y Z : List Int) (h : X.length + Y.length + Z.length ≤ 1048576) : Ev (fun k => laws_eqEnvelope.f k X Y Z X Y Z) true := by
  unfold laws_eqEnvelope.f
  exact Ev.bind (eqIntS_ev X (by omega)) (ev_pos (by trivial) (Ev.bind (eqIntS_ev Y (by omega)) (ev_pos (by trivial) (Ev.bind (eqIntS_ev Z (by omega)) (ev_pos (by trivial) (Ev.now _))))))
theorem spec_env_loop (M F A : List Int) (hF : F.length = M.length) (hA : A.length = M.length) (hx : M.length ≤ 1000) : ∀ (d n : Nat), n + d = M.length → (∀ m, m < n → F.getD m 0 ≤ A.getD m 0) → EvB (fun k => spec_EnvelopeOk.l0 k (M.length : Int) (n : Int) M F A) (Under F A) := by
  intro d
  induction d with
  | zero =>
    intro n hn hm
    refine EvB.succ ?_
    simp only [spec_EnvelopeOk.l0]
    exact EvB.neg (by omega) (EvB.true_ (fun m h => hm m (by omega)))
  | succ d ih =>
    intro n hn hm
    refine EvB.succ ?_
    simp only [spec_EnvelopeOk.l0, rd_nat]
    refine EvB.pos (by omega) (EvB.pos (by omega) (EvB.pos (by omega) (EvB.pos (by omega) ?_)))
    by_cases h : F.getD n 0 > A.getD n 0
    · exact EvB.pos h (EvB.false_ (fun h' => by have := h' n (by omega); omega))
    · refine EvB.neg h ?_
      rw [w64_succ (m := M.length) (n := n) (by omega) (by omega)]
      refine ih (n + 1) (by omega) (fun m hm' => ?_)
      by_cases e : m = n
      · subst e; omega
      · exact hm m (by omega)
theorem impl_env_loop (M F A : List Int) (hF : F.length = M.length) (hA : A.length = M.length) (hx : M.length ≤ 1000) : ∀ (d n : Nat), n + d = M.length → (∀ m, m < n → F.getD m 0 ≤ A.getD m 0) → EvB (fun k => impl_EnvelopeOk.l0 k F (F.length : Int) (n : Int) M F A) (Under F A ∧ AllIn F (-1000) 1000 ∧ AllIn A (-1000) 1000) := by
  intro d
  induction d with
  | zero =>
    intro n hn hm
    refine EvB.succ ?_
    simp only [impl_EnvelopeOk.l0]
    refine EvB.neg (by omega) ((EvB.bind (impl_all_ev F _ _ (by omega)) (EvB.last (impl_all_ev A _ _ (by omega)))).iff ?_)
    exact ⟨fun h => ⟨fun m h' => hm m (by omega), h⟩, fun h => h.2⟩
  | succ d ih =>
    intro n hn hm
    refine EvB.succ ?_
    simp only [impl_EnvelopeOk.l0, rd_nat]
    refine EvB.pos (by omega) (EvB.pos (by omega) (EvB.pos (by omega) (EvB.pos (by omega) ?_)))
    by_cases h : F.getD n 0 > A.getD n 0
    · exact EvB.pos h (EvB.false_ (fun h' => by have := h'.1 n (by omega); omega))
    · refine EvB.neg h ?_
      rw [w64_succ (m := M.length) (n := n) (by omega) (by omega)]
      refine ih (n + 1) (by omega) (fun m hm' => ?_)
      by_cases e : m = n
      · subst e; omega
      · exact hm m (by omega)
theorem spec_env_ev (M F A : List Int) (h : M.length + F.length + A.length ≤ 1048576) : EvB (fun k => spec_EnvelopeOk.f k M F A) (EnvP M F A) := by
  have bad : Ev (fun k => spec_EnvelopeOk.j0 k (M.length : Int) true M F A) false := by
    refine ev_succ ?_
    simp only [spec_EnvelopeOk.j0]
    exact ev_pos (by trivial) (Ev.now _)
  by_cases hs : (2 ≤ M.length ∧ M.length ≤ 10) ∧ F.length = M.length ∧ A.length = M.length
  · have good : EvB (fun k => spec_EnvelopeOk.j0 k (M.length : Int) false M F A) (Under F A) := by
      refine EvB.succ ?_
      simp only [spec_EnvelopeOk.j0]
      exact EvB.neg (by decide) (spec_env_loop M F A hs.2.1 hs.2.2 (by omega) M.length 0 (by omega) (fun m h => by omega))
    unfold spec_EnvelopeOk.f
    refine (EvB.bindE bad (spec_in_evB _ _ _) (EvB.iteE bad (EvB.iteE bad (EvB.bindE bad (spec_rise_ev M (by omega)) (EvB.bindE bad (spec_all_ev M _ _ (by omega)) (EvB.bindE bad (spec_all_ev F _ _ (by omega)) (EvB.bindN (J := fun k b => spec_EnvelopeOk.j0 k (M.length : Int) b M F A) bad (spec_all_ev A _ _ (by omega)) good))))))).iff ?_
    unfold EnvP
    constructor
    · rintro ⟨h1, h2, h3, h4, h5, h6, h7, h8⟩; exact ⟨hs.1, hs.2.1, hs.2.2, h4, h5, h6, h7, h8⟩
    · rintro ⟨h1, h2, h3, h4, h5, h6, h7, h8⟩; exact ⟨by omega, by omega, by omega, h4, h5, h6, h7, h8⟩
  · refine ⟨false, ?_, ⟨fun e => (Bool.false_ne_true e).elim, fun e => absurd ⟨e.1, e.2.1, e.2.2.1⟩ hs⟩⟩
    simp only [spec_EnvelopeOk.f, spec_in_eq, Option.bind_some]
    by_cases h1 : 2 ≤ (M.length : Int) ∧ (M.length : Int) ≤ 10
    · simp only [decide_eq_true h1]
      by_cases h2 : (F.length : Int) = (M.length : Int)
      · by_cases h3 : (A.length : Int) = (M.length : Int)
        · exact absurd ⟨by omega, by omega, by omega⟩ hs
        · exact ev_pos (by trivial) (ev_pos h2 (ev_neg h3 bad))
      · exact ev_pos (by trivial) (ev_neg h2 bad)
    · simp only [decide_eq_false h1]
      exact ev_neg (by decide) bad
theorem impl_env_ev (M F A : List Int) (h : M.length + F.length + A.length ≤ 1048576) : EvB (fun k => impl_EnvelopeOk.f k M F A) (EnvP M F A) := by
  have bad : Ev (fun k => impl_EnvelopeOk.j0 k true M F A) false := by
    refine ev_succ ?_
    simp only [impl_EnvelopeOk.j0]
    exact ev_pos (by trivial) (Ev.now _)
  by_cases hs : (2 ≤ M.length ∧ M.length ≤ 10) ∧ F.length = M.length ∧ A.length = M.length
  · have good : EvB (fun k => impl_EnvelopeOk.j0 k false M F A) (Under F A ∧ AllIn F (-1000) 1000 ∧ AllIn A (-1000) 1000) := by
      refine EvB.succ ?_
      simp only [impl_EnvelopeOk.j0]
      exact EvB.neg (by decide) (impl_env_loop M F A hs.2.1 hs.2.2 (by omega) M.length 0 (by omega) (fun m h => by omega))
    unfold impl_EnvelopeOk.f
    refine (EvB.bindE bad (impl_in_evB _ _ _) (EvB.iteE bad (EvB.iteE bad (EvB.bindN (J := fun k b => impl_EnvelopeOk.j0 k b M F A) bad (impl_asc_ev M _ _ (by omega)) good)))).iff ?_
    unfold EnvP
    constructor
    · rintro ⟨h1, h2, h3, ⟨h4, h5⟩, h6, h7, h8⟩; exact ⟨hs.1, hs.2.1, hs.2.2, h5, h4, h7, h8, h6⟩
    · rintro ⟨h1, h2, h3, h4, h5, h6, h7, h8⟩; exact ⟨by omega, by omega, by omega, ⟨h5, h4⟩, h8, h6, h7⟩
  · refine ⟨false, ?_, ⟨fun e => (Bool.false_ne_true e).elim, fun e => absurd ⟨e.1, e.2.1, e.2.2.1⟩ hs⟩⟩
    simp only [impl_EnvelopeOk.f, impl_in_eq, Option.bind_some]
    by_cases h1 : 2 ≤ (M.length : Int) ∧ (M.length : Int) ≤ 10
    · simp only [decide_eq_true h1]
      by_cases h2 : (F.length : Int) = (M.length : Int)
      · by_cases h3 : (A.length : Int) = (M.length : Int)
        · exact absurd ⟨by omega, by omega, by omega⟩ hs
        · exact ev_pos (by trivial) (ev_pos h2 (ev_neg h3 bad))
      · exact ev_pos (by trivial) (ev_neg h2 bad)
    · simp only [decide_eq_false h1]
      exact ev_neg (by decide) bad

theorem piece_loop (X : List Int) (x : Int) (hx : X.length ≤ 1048576) : ∀ (d n : Nat), n + 2 + d = X.length → ∃ r : Nat, r + 1 < X.length ∧ Ev (fun k => spec_l1Low.l0 k X x (n : Int)) (r : Int) ∧ Ev (fun k => impl_piece.l0 k X x (n : Int)) (r : Int) := by
  intro d
  induction d with
  | zero =>
    intro n hn
    have e : wrap64 ((n : Int) + 2) = (n : Int) + 2 := w64 (by omega) (by omega)
    refine ⟨n, by omega, ev_succ ?_, ev_succ ?_⟩
    · simp only [spec_l1Low.l0, e]
      exact ev_neg (by omega) (Ev.now _)
    · simp only [impl_piece.l0, e]
      exact ev_neg (by omega) (Ev.now _)
  | succ d ih =>
    intro n hn
    have e : wrap64 ((n : Int) + 2) = (n : Int) + 2 := w64 (by omega) (by omega)
    have e1 := w64_succ (m := X.length) (n := n) (by omega) (by omega)
    by_cases h : rd X ((n + 1 : Nat) : Int) ≤ x
    · obtain ⟨r, h0, h1, h2⟩ := ih (n + 1) (by omega)
      refine ⟨r, h0, ev_succ ?_, ev_succ ?_⟩
      · simp only [spec_l1Low.l0, e, e1]
        exact ev_pos (by omega) (ev_pos (by omega) (ev_pos (by omega) (ev_pos h h1)))
      · simp only [impl_piece.l0, e, e1]
        exact ev_pos (by omega) (ev_pos (by omega) (ev_pos (by omega) (ev_pos h h2)))
    · refine ⟨n, by omega, ev_succ ?_, ev_succ ?_⟩
      · simp only [spec_l1Low.l0, e, e1]
        exact ev_pos (by omega) (ev_pos (by omega) (ev_pos (by omega) (ev_neg h (Ev.now _))))
      · simp only [impl_piece.l0, e, e1]
        exact ev_pos (by omega) (ev_pos (by omega) (ev_pos (by omega) (ev_neg h (Ev.now _))))
theorem piece_both (X : List Int) (x : Int) (h2 : 2 ≤ X.length) (hx : X.length ≤ 1048576) : ∃ r : Nat, r + 1 < X.length ∧ Ev (fun k => spec_l1Low.f k X x) (r : Int) ∧ Ev (fun k => impl_piece.f k X x) (r : Int) := by
  unfold spec_l1Low.f impl_piece.f
  exact piece_loop X x hx (X.length - 2) 0 (by omega)

def num (X Y : List Int) (x : Int) (i : Nat) : Int := wrap64 ((wrap64 ((Y.getD i 0) * (wrap64 ((X.getD (i + 1) 0) - (X.getD i 0))))) + (wrap64 ((wrap64 ((Y.getD (i + 1) 0) - (Y.getD i 0))) * (wrap64 (x - (X.getD i 0))))))
theorem last_nat {T : List Int} (h : 1 ≤ T.length) (h' : T.length ≤ 1048576) : wrap64 ((T.length : Int) - 1) = ((T.length - 1 : Nat) : Int) := by
  rw [w64 (by omega) (by omega)]
  omega
theorem le_mx (a b c : Int) : mx a b ≤ c ↔ a ≤ c ∧ b ≤ c := by
  unfold mx
  split <;> omega
theorem inside_core {M F A : List Int} (hP : EnvP M F A) (x y : Int) : ∃ b : Bool, Ev (fun k => spec_Inside.j0 k false M F A x y) b ∧ Ev (fun k => impl_inside.j0 k false M F A x y) b := by
  obtain ⟨hl, hF, hA, _⟩ := hP
  obtain ⟨i, hi, p1, p2⟩ := piece_both M x (by omega) (by omega)
  have e := w64_succ (m := M.length) (n := i) (by omega) (by omega)
  have k0 := Int.natCast_nonneg i
  have k1 : (i : Int) < (M.length : Int) := by omega
  have k2 : ((i + 1 : Nat) : Int) < (M.length : Int) := by omega
  have k3 : (i : Int) < (F.length : Int) := by omega
  have k4 : ((i + 1 : Nat) : Int) < (F.length : Int) := by omega
  have k6 : (i : Int) < (A.length : Int) := by omega
  have k7 : ((i + 1 : Nat) : Int) < (A.length : Int) := by omega
  have k5 := Int.natCast_nonneg (i + 1)
  by_cases c : wrap64 (y * wrap64 (M.getD (i + 1) 0 - M.getD i 0)) ≥ wrap64 (num M F x i * x)
  · refine ⟨decide (wrap64 (y * wrap64 (M.getD (i + 1) 0 - M.getD i 0)) ≤ wrap64 (num M A x i * x)), ev_succ ?_, ev_succ ?_⟩
    · simp only [spec_Inside.j0]
      refine ev_neg (by decide) (Ev.bind p1 ?_)
      simp only [e, rd_nat]
      exact ev_pos k5 (ev_pos k2 (ev_pos k0 (ev_pos k1 (ev_pos k3 (ev_pos k4 (ev_pos k6 (ev_pos k7 (ev_pos c (Ev.now _)))))))))
    · simp only [impl_inside.j0]
      refine ev_neg (by decide) (Ev.bind p2 ?_)
      simp only [e, rd_nat, impl_between.f, Option.bind_some]
      exact ev_pos k0 (ev_pos k1 (ev_pos k5 (ev_pos k2 (ev_pos k3 (ev_pos k4 (ev_pos k6 (ev_pos k7 (ev_pos c (Ev.now _)))))))))
  · refine ⟨false, ev_succ ?_, ev_succ ?_⟩
    · simp only [spec_Inside.j0]
      refine ev_neg (by decide) (Ev.bind p1 ?_)
      simp only [e, rd_nat]
      exact ev_pos k5 (ev_pos k2 (ev_pos k0 (ev_pos k1 (ev_pos k3 (ev_pos k4 (ev_pos k6 (ev_pos k7 (ev_neg c (Ev.now _)))))))))
    · simp only [impl_inside.j0]
      refine ev_neg (by decide) (Ev.bind p2 ?_)
      simp only [e, rd_nat, impl_between.f, Option.bind_some]
      exact ev_pos k0 (ev_pos k1 (ev_pos k5 (ev_pos k2 (ev_pos k3 (ev_pos k4 (ev_pos k6 (ev_pos k7 (ev_neg c (Ev.now _)))))))))

theorem sin (a b c : Int) : spec_l1In.f a b c = some (decide (b ≤ a ∧ a ≤ c)) := by
  unfold spec_l1In.f
  by_cases h : a ≥ b
  · rw [if_pos h]; simp [show b ≤ a from h]
  · rw [if_neg h]; simp [show ¬ b ≤ a from h]
theorem iin (a b c : Int) : impl_in.f a b c = some (decide (b ≤ a ∧ a ≤ c)) := by
  unfold impl_in.f
  by_cases h : a ≥ b
  · rw [if_pos h]; simp [show b ≤ a from h]
  · rw [if_neg h]; simp [show ¬ b ≤ a from h]
abbrev Tk := S60
abbrev Bn := S62
def okT (t : Tk) : Prop := (0 ≤ t.f0 ∧ t.f0 ≤ 10000) ∧ (-1000 ≤ t.f1 ∧ t.f1 ≤ 1000)
theorem tanks_loop (l : List Tk) (hl : l.length ≤ 1048576) : ∀ (d n : Nat), n + d = l.length → ∃ r : Int, Ev (fun k => impl_FuelTank_65.l0 k l (l.length : Int) (n : Int)) r ∧ Ev (fun k => spec_l2Tanks.l0 k l (n : Int)) (if (l.length : Int) ≤ 8 then !decide (r ≥ 0) else false) ∧ (¬ r ≥ 0 → ∀ j : Nat, n ≤ j → j < l.length → okT (rd_T60 l (j : Int))) := by
  intro d
  induction d with
  | zero =>
    intro n hn
    refine ⟨-1, ev_succ ?_, ev_succ ?_, fun _ j h1 h2 => by omega⟩
    · simp only [impl_FuelTank_65.l0]
      exact ev_neg (by omega) (Ev.now _)
    · simp only [spec_l2Tanks.l0]
      refine ev_neg (by omega) ?_
      by_cases h : (l.length : Int) ≤ 8
      · rw [if_pos h, decide_eq_true h]; exact Ev.now _
      · rw [if_neg h, decide_eq_false h]; exact Ev.now _
  | succ d ih =>
    intro n hn
    have hw := w64_succ (n := n) (m := l.length) (by omega) (by omega)
    have bad : ∀ (_ : ¬ ((0 ≤ (rd_T60 l (n : Int)).f0 ∧ (rd_T60 l (n : Int)).f0 ≤ 10000) ∧ (-1000 ≤ (rd_T60 l (n : Int)).f1 ∧ (rd_T60 l (n : Int)).f1 ≤ 1000))), ∃ r : Int, Ev (fun k => impl_FuelTank_65.l0 k l (l.length : Int) (n : Int)) r ∧ Ev (fun k => spec_l2Tanks.l0 k l (n : Int)) (if (l.length : Int) ≤ 8 then !decide (r ≥ 0) else false) ∧ (¬ r ≥ 0 → ∀ j : Nat, n ≤ j → j < l.length → okT (rd_T60 l (j : Int))) := by
      intro hb
      have e : (if (l.length : Int) ≤ 8 then !decide ((n : Int) ≥ 0) else false) = false := by
        rw [decide_eq_true (show (n : Int) ≥ 0 by omega)]; split <;> rfl
      refine ⟨(n : Int), ev_succ ?_, ev_succ ?_, fun h => absurd (by omega) h⟩
      · simp only [impl_FuelTank_65.l0, impl_tanksOk_1.f, iin, Option.bind_some]
        refine ev_pos (by omega) (ev_pos (by omega) (ev_pos (by omega) ?_))
        by_cases h1 : 0 ≤ (rd_T60 l (n : Int)).f0 ∧ (rd_T60 l (n : Int)).f0 ≤ 10000
        · have h2 : ¬ (-1000 ≤ (rd_T60 l (n : Int)).f1 ∧ (rd_T60 l (n : Int)).f1 ≤ 1000) := fun h => hb ⟨h1, h⟩
          simp only [decide_eq_true h1, decide_eq_false h2, if_true, Option.bind_some, Bool.not_false]
          exact Ev.now _
        · simp only [decide_eq_false h1, Bool.false_eq_true, if_false, Option.bind_some]
          exact Ev.now _
      · rw [e]
        simp only [spec_l2Tanks.l0, sin, Option.bind_some]
        refine ev_pos (by omega) (ev_pos (by omega) ?_)
        by_cases h1 : 0 ≤ (rd_T60 l (n : Int)).f0 ∧ (rd_T60 l (n : Int)).f0 ≤ 10000
        · have h2 : ¬ (-1000 ≤ (rd_T60 l (n : Int)).f1 ∧ (rd_T60 l (n : Int)).f1 ≤ 1000) := fun h => hb ⟨h1, h⟩
          exact ev_pos (decide_eq_true h1) (ev_neg (by simpa using h2) (Ev.now _))
        · exact ev_neg (by simpa using h1) (Ev.now _)
    by_cases h1 : 0 ≤ (rd_T60 l (n : Int)).f0 ∧ (rd_T60 l (n : Int)).f0 ≤ 10000
    · by_cases h2 : -1000 ≤ (rd_T60 l (n : Int)).f1 ∧ (rd_T60 l (n : Int)).f1 ≤ 1000
      · obtain ⟨r, a, b, c⟩ := ih (n + 1) (by omega)
        refine ⟨r, ev_succ ?_, ev_succ ?_, fun hr j h3 h4 => ?_⟩
        rotate_left; rotate_left
        · by_cases e : j = n
          · subst e; exact ⟨h1, h2⟩
          · exact c hr j (by omega) h4
        · simp only [impl_FuelTank_65.l0, impl_tanksOk_1.f, iin, hw, decide_eq_true h1, decide_eq_true h2, Option.bind_some, if_true, Bool.not_true, Bool.false_eq_true, if_false]
          exact ev_pos (by omega) (ev_pos (by omega) (ev_pos (by omega) a))
        · simp only [spec_l2Tanks.l0, sin, hw, decide_eq_true h1, decide_eq_true h2, Option.bind_some]
          exact ev_pos (by omega) (ev_pos (by omega) (ev_pos (by trivial) (ev_pos (by trivial) b)))
      · exact bad (fun h => h2 h.2)
    · exact bad (fun h => h1 h.1)
theorem tanks_both (l : List Tk) (hl : l.length ≤ 1048576) : ∃ b : Bool, Ev (fun k => impl_tanksOk.f k l) b ∧ Ev (fun k => spec_l2Tanks.f k l) b ∧ (b = true → l.length ≤ 8 ∧ ∀ j : Nat, okT (l.getD j z60)) := by
  obtain ⟨r, a, b, c⟩ := tanks_loop l hl l.length 0 (by omega)
  refine ⟨_, ?_, by unfold spec_l2Tanks.f; exact b, ?_⟩
  · unfold impl_tanksOk.f impl_FuelTank_58.f impl_FuelTank_65.f
    refine Ev.bind (Ev.bind a (Ev.now _)) ?_
    by_cases h : (l.length : Int) ≤ 8
    · simp only [if_pos h]; exact Ev.now _
    · simp only [if_neg h]; exact Ev.now _
  · intro h
    split at h
    · rename_i h8
      have hr : ¬ r ≥ 0 := by simpa using h
      refine ⟨by omega, fun j => ?_⟩
      by_cases hj : j < l.length
      · have := c hr j (Nat.zero_le _) hj
        unfold rd_T60 at this
        rwa [Int.toNat_natCast] at this
      · rw [List.getD_eq_getElem?_getD, List.getElem?_eq_none (by omega)]
        exact ⟨⟨by decide, by decide⟩, by decide, by decide⟩
    · cases h

theorem rdTk (l : List Tk) (n : Nat) : rd_T60 l (n : Int) = l.getD n z60 := by
  unfold rd_T60
  rw [Int.toNat_natCast]
def TOk (l : List Tk) : Prop := l.length ≤ 8 ∧ ∀ j : Nat, okT (l.getD j z60)
theorem inside_two {M F A : List Int} (hM : M.length + F.length + A.length ≤ 1048576) (hP : EnvP M F A) (x y : Int) : ∃ b : Bool, Ev (fun k => spec_Inside.f k M F A x y) b ∧ Ev (fun k => impl_inside.f k M F A x y) b := by
  have b1 : Ev (fun k => spec_Inside.j0 k true M F A x y) false := by
    refine ev_succ ?_
    simp only [spec_Inside.j0]
    exact ev_pos (by trivial) (Ev.now _)
  have b2 : Ev (fun k => impl_inside.j0 k true M F A x y) false := by
    refine ev_succ ?_
    simp only [impl_inside.j0]
    exact ev_pos (by trivial) (Ev.now _)
  obtain ⟨b, hb, ib⟩ := spec_env_ev M F A hM
  have hbt : b = true := ib.2 hP
  subst hbt
  unfold spec_Inside.f impl_inside.f
  have hl := hP.1
  have e := last_nat (T := M) (by omega) (by omega)
  have z : rd M 0 = M.getD 0 0 := rd_nat M 0
  have k1 : (0 : Int) < (M.length : Int) := by omega
  have k2 : 0 ≤ ((M.length - 1 : Nat) : Int) := by omega
  have k3 : ((M.length - 1 : Nat) : Int) < (M.length : Int) := by omega
  simp only [e, rd_nat, z, sin, iin, Option.bind_some]
  by_cases hx : 1 ≤ x ∧ M.getD 0 0 ≤ x ∧ x ≤ M.getD (M.length - 1) 0
  · have hx' : mx (M.getD 0 0) 1 ≤ x ∧ x ≤ M.getD (M.length - 1) 0 := ⟨(le_mx _ _ _).2 ⟨hx.2.1, hx.1⟩, hx.2.2⟩
    simp only [decide_eq_true hx', decide_eq_true hx.2]
    by_cases hy : (-1000000000 : Int) ≤ y ∧ y ≤ 1000000000
    · obtain ⟨r, r1, r2⟩ := inside_core hP x y
      simp only [decide_eq_true hy]
      exact ⟨r, Ev.bind hb (ev_pos rfl (ev_neg (by omega) (ev_pos k1 (ev_pos k2 (ev_pos k3 (ev_pos (by trivial) r1)))))), ev_pos k1 (ev_pos k2 (ev_pos k3 (ev_pos (by trivial) r2)))⟩
    · simp only [decide_eq_false hy]
      exact ⟨_, Ev.bind hb (ev_pos rfl (ev_neg (by omega) (ev_pos k1 (ev_pos k2 (ev_pos k3 (ev_pos (by trivial) b1)))))), ev_pos k1 (ev_pos k2 (ev_pos k3 (ev_pos (by trivial) b2)))⟩
  · have hx' : ¬ (mx (M.getD 0 0) 1 ≤ x ∧ x ≤ M.getD (M.length - 1) 0) := fun h => hx ⟨((le_mx _ _ _).1 h.1).2, ((le_mx _ _ _).1 h.1).1, h.2⟩
    simp only [decide_eq_false hx']
    by_cases c : x < 1
    · exact ⟨_, Ev.bind hb (ev_pos rfl (ev_pos c b1)), ev_pos k1 (ev_pos k2 (ev_pos k3 (ev_neg (by decide) b2)))⟩
    · have hx2 : ¬ (M.getD 0 0 ≤ x ∧ x ≤ M.getD (M.length - 1) 0) := fun h => hx ⟨by omega, h⟩
      simp only [decide_eq_false hx2]
      exact ⟨_, Ev.bind hb (ev_pos rfl (ev_neg c (ev_pos k1 (ev_pos k2 (ev_pos k3 (ev_neg (by decide) b1)))))), ev_pos k1 (ev_pos k2 (ev_pos k3 (ev_neg (by decide) b2)))⟩
theorem with_loop (l : List Tk) (hl : l.length ≤ 8) : ∀ (d n : Nat) (a b : Int), n + d = l.length → ∃ s : Int × Int, Ev (fun k => spec_l2With.l0 k l (n : Int) a b) s ∧ Ev (fun k => impl_laden.l0 k l (l.length : Int) (n : Int) a b) s := by
  intro d
  induction d with
  | zero =>
    intro n a b hn
    refine ⟨(a, b), ev_succ ?_, ev_succ ?_⟩
    · simp only [spec_l2With.l0]
      exact ev_neg (by omega) (Ev.now _)
    · simp only [impl_laden.l0]
      exact ev_neg (by omega) (Ev.now _)
  | succ d ih =>
    intro n a b hn
    have hw := w64_succ (n := n) (m := l.length) (by omega) (by omega)
    obtain ⟨s, h1, h2⟩ := ih (n + 1) (wrap64 (a + ((rd_T60 l (n : Int)).f0))) (wrap64 (b + (wrap64 (((rd_T60 l (n : Int)).f0) * ((rd_T60 l (n : Int)).f1))))) (by omega)
    refine ⟨s, ev_succ ?_, ev_succ ?_⟩
    · simp only [spec_l2With.l0, hw]
      exact ev_pos (by omega) (ev_pos (by omega) h1)
    · simp only [impl_laden.l0, hw]
      exact ev_pos (by omega) (ev_pos (by omega) (ev_pos (by omega) h2))
theorem with_both (l : List Tk) (hl : l.length ≤ 8) (a b : Int) : ∃ s : Int × Int, Ev (fun k => spec_l2With.f k a b l) s ∧ Ev (fun k => impl_laden.f k a b l) s := with_loop l hl l.length 0 a b (by omega)

theorem rdBn (l : List Bn) (n : Nat) : rd_T62 l (n : Int) = l.getD n z62 := by
  unfold rd_T62
  rw [Int.toNat_natCast]
def bstep (o : List Tk) (b : Bn) : List Tk := o.set (b.f0 : Int).toNat (⟨wrap64 ((rd_T60 o b.f0).f0 - b.f1), (rd_T60 o b.f0).f1⟩ : Tk)
def okB (o : List Tk) (b : Bn) : Prop := ((0 ≤ b.f0 ∧ b.f0 ≤ (o.length : Int) - 1) ∧ (1 ≤ b.f1 ∧ b.f1 ≤ 10000)) ∧ ¬ (rd_T60 o b.f0).f0 < b.f1
/-- the tanks behind the first n burns -/
def stB (l : List Tk) (p : List Bn) : Nat → List Tk
  | 0 => l
  | n + 1 => bstep (stB l p n) (rd_T62 p (n : Int))
theorem stB_len (l : List Tk) (p : List Bn) : ∀ n, (stB l p n).length = l.length
  | 0 => rfl
  | n + 1 => by simp only [stB, bstep, List.length_set]; exact stB_len l p n
theorem burn_st (l : List Tk) (p : List Bn) (hp : p.length ≤ 60) (hl : l.length ≤ 8) : ∀ (d n : Nat), n + d = p.length → ∃ r : List Tk × Int, Ev (fun k => spec_Burnt.l0 k p (stB l p n) (n : Int)) r ∧ Ev (fun k => impl_Burnt.l0 k (stB l p n) p (p.length : Int) (n : Int)) r ∧ (r.2 = -1 → ∀ j : Nat, n ≤ j → j < p.length → okB (stB l p j) (rd_T62 p (j : Int))) := by
  intro d
  induction d with
  | zero =>
    intro n hn
    refine ⟨(stB l p n, -1), ev_succ ?_, ev_succ ?_, fun _ j h1 h2 => by omega⟩
    · simp only [spec_Burnt.l0]
      exact ev_neg (by omega) (Ev.now _)
    · simp only [impl_Burnt.l0]
      exact ev_neg (by omega) (Ev.now _)
  | succ d ih =>
    intro n hn
    have hw := w64_succ (n := n) (m := p.length) (by omega) (by omega)
    have hst : stB l p (n + 1) = bstep (stB l p n) (rd_T62 p (n : Int)) := rfl
    have hok : ∀ j : Nat, n ≤ j → j < p.length → (n + 1 ≤ j → okB (stB l p j) (rd_T62 p (j : Int))) → okB (stB l p n) (rd_T62 p (n : Int)) → okB (stB l p j) (rd_T62 p (j : Int)) := by
      intro j h1 h2 h3 h4
      by_cases e : j = n
      · subst e; exact h4
      · exact h3 (by omega)
    have ih' := ih (n + 1) (by omega)
    have ho : (stB l p n).length ≤ 8 := by rw [stB_len]; exact hl
    rw [hst] at ih'
    generalize stB l p n = o at hok ih' ho ⊢
    have hv : wrap64 ((o.length : Int) - 1) = (o.length : Int) - 1 := w64 (by omega) (by omega)
    generalize hb : rd_T62 p (n : Int) = b at hok ih' ⊢
    have stop : ∀ (_ : ¬ ((0 ≤ b.f0 ∧ b.f0 ≤ (o.length : Int) - 1) ∧ (1 ≤ b.f1 ∧ b.f1 ≤ 10000)) ∨ (rd_T60 o b.f0).f0 < b.f1), ∃ r : List Tk × Int, Ev (fun k => spec_Burnt.l0 k p o (n : Int)) r ∧ Ev (fun k => impl_Burnt.l0 k o p (p.length : Int) (n : Int)) r ∧ (r.2 = -1 → ∀ j : Nat, n ≤ j → j < p.length → okB (stB l p j) (rd_T62 p (j : Int))) := by
      intro hc
      refine ⟨(o, (n : Int)), ev_succ ?_, ev_succ ?_, fun h => by simp only at h; omega⟩
      · simp only [spec_Burnt.l0, sin, hv, hb, Option.bind_some]
        refine ev_pos (by omega) (ev_pos (by omega) ?_)
        by_cases h1 : 0 ≤ b.f0 ∧ b.f0 ≤ (o.length : Int) - 1
        · refine ev_pos (decide_eq_true h1) ?_
          by_cases h2 : 1 ≤ b.f1 ∧ b.f1 ≤ 10000
          · rcases hc with hc | hc
            · exact absurd ⟨h1, h2⟩ hc
            · exact ev_pos (decide_eq_true h2) (ev_pos (by omega) (ev_pos (by omega) (ev_pos hc (Ev.now _))))
          · exact ev_neg (by simpa using h2) (Ev.now _)
        · exact ev_neg (by simpa using h1) (Ev.now _)
      · simp only [impl_Burnt.l0, iin, hv, hb, Option.bind_some]
        refine ev_pos (by omega) (ev_pos (by omega) (ev_pos (by omega) ?_))
        by_cases h1 : 0 ≤ b.f0 ∧ b.f0 ≤ (o.length : Int) - 1
        · refine ev_pos (decide_eq_true h1) ?_
          by_cases h2 : 1 ≤ b.f1 ∧ b.f1 ≤ 10000
          · rcases hc with hc | hc
            · exact absurd ⟨h1, h2⟩ hc
            · exact ev_pos (decide_eq_true h2) (ev_pos (by omega) (ev_pos (by omega) (ev_pos hc (Ev.now _))))
          · exact ev_neg (by simpa using h2) (Ev.now _)
        · exact ev_neg (by simpa using h1) (Ev.now _)
    by_cases h1 : 0 ≤ b.f0 ∧ b.f0 ≤ (o.length : Int) - 1
    · by_cases h2 : 1 ≤ b.f1 ∧ b.f1 ≤ 10000
      · by_cases h3 : (rd_T60 o b.f0).f0 < b.f1
        · exact stop (.inr h3)
        · obtain ⟨r, a, c, e⟩ := ih'
          simp only [bstep] at a c
          refine ⟨r, ev_succ ?_, ev_succ ?_, fun hr j j1 j2 => hok j j1 j2 (fun j3 => e hr j j3 j2) ⟨⟨h1, h2⟩, h3⟩⟩
          · simp only [spec_Burnt.l0, sin, hv, hw, hb, decide_eq_true h1, decide_eq_true h2, Option.bind_some]
            exact ev_pos (by omega) (ev_pos (by omega) (ev_pos (by trivial) (ev_pos (by trivial) (ev_pos (by omega) (ev_pos (by omega) (ev_neg h3 a))))))
          · simp only [impl_Burnt.l0, iin, hv, hw, hb, decide_eq_true h1, decide_eq_true h2, Option.bind_some]
            exact ev_pos (by omega) (ev_pos (by omega) (ev_pos (by omega) (ev_pos (by trivial) (ev_pos (by trivial) (ev_pos (by omega) (ev_pos (by omega) (ev_neg h3 c)))))))
      · exact stop (.inl (fun h => h2 h.2))
    · exact stop (.inl (fun h => h1 h.1))
def goodB (l : List Tk) (p : List Bn) : Prop := ∀ j : Nat, j < p.length → okB (stB l p j) (rd_T62 p (j : Int))
/-- what both ask of a plan -/
theorem burnt_code (l : List Tk) (p : List Bn) (hl : l.length ≤ 1048576) : ∃ r : List Tk × Int, Ev (fun k => spec_Burnt.f k l p) r ∧ Ev (fun k => impl_Burnt.f k l p) r ∧ (r.2 = -1 → l.length ≤ 8 ∧ p.length ≤ 60 ∧ Ev (fun k => impl_tanksOk.f k l) true ∧ Ev (fun k => spec_l2Tanks.f k l) true ∧ goodB l p) := by
  obtain ⟨b, a, c, h8⟩ := tanks_both l hl
  unfold spec_Burnt.f impl_Burnt.f
  have no : Ev (fun k => spec_Burnt.j0 k l p true) (([] : List Tk), (-2 : Int)) ∧ Ev (fun k => impl_Burnt.j0 k l p true) (([] : List Tk), (-2 : Int)) := by
    refine ⟨ev_succ ?_, ev_succ ?_⟩
    · simp only [spec_Burnt.j0]
      exact ev_pos (by trivial) (Ev.now _)
    · simp only [impl_Burnt.j0]
      exact ev_pos (by trivial) (Ev.now _)
  cases b with
  | false =>
    exact ⟨_, Ev.bind c (ev_neg (by decide) no.1), Ev.bind a (ev_neg (by decide) no.2), fun h => by simp at h⟩
  | true =>
    have hl8 := (h8 rfl).1
    by_cases hp : (p.length : Int) > 60
    · refine ⟨([], -2), Ev.bind c (ev_pos (by trivial) ?_), Ev.bind a (ev_pos (by trivial) ?_), fun h => by simp at h⟩
      · rw [decide_eq_true hp]; exact no.1
      · rw [decide_eq_true hp]; exact no.2
    · obtain ⟨r, x, y, z⟩ := burn_st l p (by omega) hl8 p.length 0 (by omega)
      refine ⟨r, Ev.bind c (ev_pos (by trivial) ?_), Ev.bind a (ev_pos (by trivial) ?_), fun h => ⟨hl8, by omega, a, c, fun j hj => z h j (Nat.zero_le _) hj⟩⟩
      · rw [decide_eq_false hp]
        refine ev_succ ?_
        simp only [spec_Burnt.j0, Option.bind_some, List.nil_append, List.length_nil]
        exact ev_neg (by decide) (ev_pos (by omega) x)
      · rw [decide_eq_false hp]
        refine ev_succ ?_
        simp only [impl_Burnt.j0, impl_FuelTank_41.f, Option.bind_some, List.nil_append, List.length_nil]
        rw [if_pos (by omega)]
        exact ev_neg (by decide) y
theorem rd_take (p : List Bn) {m n : Nat} (h : n < m) : rd_T62 (p.take m) (n : Int) = rd_T62 p (n : Int) := by
  rw [rdBn, rdBn, List.getD_eq_getElem?_getD, List.getD_eq_getElem?_getD, List.getElem?_take_of_lt h]
/-- a plan that is good, burnt up to the m-th -/
theorem burn_take (l : List Tk) (p : List Bn) (hp : p.length ≤ 60) (hl : l.length ≤ 8) (hg : goodB l p) (m : Nat) (hm : m ≤ p.length) : ∀ (d n : Nat), n + d = m → Ev (fun k => spec_Burnt.l0 k (p.take m) (stB l p n) (n : Int)) (stB l p m, -1) := by
  intro d
  have hL : (p.take m).length = m := by rw [List.length_take]; omega
  induction d with
  | zero =>
    intro n hn
    obtain rfl : n = m := by omega
    refine ev_succ ?_
    simp only [spec_Burnt.l0, hL]
    exact ev_neg (by omega) (Ev.now _)
  | succ d ih =>
    intro n hn
    have hw := w64_succ (n := n) (m := m) (by omega) (by omega)
    have ih' := ih (n + 1) (by omega)
    have ho : (stB l p n).length ≤ 8 := by rw [stB_len]; exact hl
    obtain ⟨⟨h1, h2⟩, h3⟩ := hg n (by omega)
    have hst : stB l p (n + 1) = bstep (stB l p n) (rd_T62 p (n : Int)) := rfl
    rw [hst] at ih'
    refine ev_succ ?_
    simp only [spec_Burnt.l0, hL, rd_take p (show n < m by omega)]
    generalize stB l p n = o at h1 h3 ho ih' ⊢
    have hv : wrap64 ((o.length : Int) - 1) = (o.length : Int) - 1 := w64 (by omega) (by omega)
    generalize rd_T62 p (n : Int) = b at h1 h2 h3 ih' ⊢
    simp only [bstep] at ih'
    simp only [sin, hv, hw, decide_eq_true h1, decide_eq_true h2, Option.bind_some]
    exact ev_pos (by omega) (ev_pos (by omega) (ev_pos (by trivial) (ev_pos (by trivial) (ev_pos (by omega) (ev_pos (by omega) (ev_neg h3 ih'))))))
theorem burnt_take (l : List Tk) (p : List Bn) (hp : p.length ≤ 60) (hl : l.length ≤ 8) (hg : goodB l p) (ht : Ev (fun k => spec_l2Tanks.f k l) true) (m : Nat) (hm : m ≤ p.length) : Ev (fun k => spec_Burnt.f k l (p.take m)) (stB l p m, -1) := by
  have hL : (p.take m).length = m := by rw [List.length_take]; omega
  unfold spec_Burnt.f
  refine Ev.bind ht (ev_pos (by trivial) ?_)
  rw [decide_eq_false (by rw [hL]; omega)]
  refine ev_succ ?_
  simp only [spec_Burnt.j0, Option.bind_some, List.nil_append, List.length_nil]
  exact ev_neg (by decide) (ev_pos (by omega) (burn_take l p hp hl hg m hm m 0 (by omega)))
theorem leaves_loop {M F A : List Int} (hM : M.length + F.length + A.length ≤ 1048576) (hP : EnvP M F A) (m0 m1 : Int) (l : List Tk) (p : List Bn) (hp : p.length ≤ 60) (hl : l.length ≤ 8) (hg : goodB l p) (ht : Ev (fun k => spec_l2Tanks.f k l) true) : ∀ (d n : Nat), n + d = p.length → ∃ R : Int, Ev (fun k => spec_Leaves.l0 k l p (n : Int) M F A m0 m1) R ∧ Ev (fun k => impl_Leaves.l0 k p (stB l p n) p (p.length : Int) (n : Int) M F A m0 m1) R := by
  intro d
  induction d with
  | zero =>
    intro n hn
    refine ⟨(p.length : Int), ev_succ ?_, ev_succ ?_⟩
    · simp only [spec_Leaves.l0]
      exact ev_neg (by omega) (Ev.now _)
    · simp only [impl_Leaves.l0]
      exact ev_neg (by omega) (Ev.now _)
  | succ d ih =>
    intro n hn
    have hw := w64_succ (n := n) (m := p.length) (by omega) (by omega)
    obtain ⟨R, r1, r2⟩ := ih (n + 1) (by omega)
    have hb := burnt_take l p hp hl hg ht (n + 1) (by omega)
    have hst : stB l p (n + 1) = bstep (stB l p n) (rd_T62 p (n : Int)) := rfl
    obtain ⟨⟨h1, h2⟩, h3⟩ := hg n (by omega)
    have hn1 : (stB l p (n + 1)).length ≤ 8 := by rw [stB_len]; exact hl
    obtain ⟨s, w1, w2⟩ := with_both (stB l p (n + 1)) hn1 m0 m1
    obtain ⟨b, i1, i2⟩ := inside_two hM hP s.1 s.2
    have e1 : ((n + 1 : Nat) : Int).toNat = n + 1 := Int.toNat_natCast _
    have go : ∀ R', Ev (fun k => if b = true then spec_Leaves.l0 k l p ((n + 1 : Nat) : Int) M F A m0 m1 else some (n : Int)) R' → Ev (fun k => if b = true then impl_Leaves.l0 k p (stB l p (n + 1)) p (p.length : Int) ((n + 1 : Nat) : Int) M F A m0 m1 else some (n : Int)) R' → ∃ R : Int, Ev (fun k => spec_Leaves.l0 k l p (n : Int) M F A m0 m1) R ∧ Ev (fun k => impl_Leaves.l0 k p (stB l p n) p (p.length : Int) (n : Int) M F A m0 m1) R := by
      intro R' q1 q2
      refine ⟨R', ev_succ ?_, ev_succ ?_⟩
      · simp only [spec_Leaves.l0, hw, e1]
        exact ev_pos (by omega) (ev_pos (by omega) (ev_pos (by omega) (Ev.bind hb (Ev.bind w1 (Ev.bind i1 q1)))))
      · rw [hst] at w2 q2
        generalize stB l p n = o at h1 h3 w2 q2 ⊢
        simp only [impl_Leaves.l0, hw, Option.bind_some]
        generalize rd_T62 p (n : Int) = bb at h1 h2 h3 w2 q2 ⊢
        simp only [bstep] at w2 q2
        exact ev_pos (by omega) (ev_pos (by omega) (ev_pos (by omega) (ev_pos (by omega) (ev_pos (by omega) (Ev.bind w2 (Ev.bind i2 q2))))))
    cases b with
    | true => exact go R (ev_pos (by trivial) r1) (ev_pos (by trivial) r2)
    | false => exact go (n : Int) (ev_neg (by decide) (Ev.now _)) (ev_neg (by decide) (Ev.now _))
theorem leaves_both (M F A : List Int) (hM : M.length + F.length + A.length ≤ 1048576) (m0 m1 : Int) (l : List Tk) (hl : l.length ≤ 1048576) (p : List Bn) : ∃ R : Int, Ev (fun k => spec_Leaves.f k M F A m0 m1 l p) R ∧ Ev (fun k => impl_Leaves.f k M F A m0 m1 l p) R := by
  have no : Ev (fun k => spec_Leaves.j0 k l p true M F A m0 m1) (-2 : Int) := by
    refine ev_succ ?_
    simp only [spec_Leaves.j0]
    exact ev_pos (by trivial) (Ev.now _)
  have no2 : Ev (fun k => impl_Leaves.j0 k l p true M F A m0 m1) (-2 : Int) := by
    refine ev_succ ?_
    simp only [impl_Leaves.j0]
    exact ev_pos (by trivial) (Ev.now _)
  obtain ⟨e, e1, e2, ie⟩ := (spec_env_ev M F A hM).same (impl_env_ev M F A hM)
  obtain ⟨r, b1, b2, hr⟩ := burnt_code l p hl
  unfold spec_Leaves.f impl_Leaves.f
  have dry : ∀ c : Bool, c = (e && decide (0 ≤ m0 ∧ m0 ≤ 400000) && decide (-100000000 ≤ m1 ∧ m1 ≤ 100000000)) → Ev (fun k => spec_l2Dry.f k M F A m0 m1) c := by
    intro c hc
    unfold spec_l2Dry.f
    refine Ev.bind e1 ?_
    simp only [sin, Option.bind_some]
    cases e with
    | false => exact ev_neg (by decide) (by rw [hc]; exact Ev.now _)
    | true =>
      refine ev_pos (by trivial) ?_
      by_cases h1 : 0 ≤ m0 ∧ m0 ≤ 400000
      · refine ev_pos (decide_eq_true h1) ?_
        rw [hc, decide_eq_true h1]
        simp only [Bool.true_and]
        exact Ev.now _
      · refine ev_neg (by simpa using h1) ?_
        rw [hc, decide_eq_false h1]
        simp only [Bool.and_false, Bool.false_and]
        exact Ev.now _
  have lad : Ev (fun k => impl_tanksOk.f k l) true → ∀ c : Bool, c = (e && decide (0 ≤ m0 ∧ m0 ≤ 400000) && decide (-100000000 ≤ m1 ∧ m1 ≤ 100000000)) → Ev (fun k => impl_ladenOk.f k M F A m0 m1 l) c := by
    intro t1 c hc
    unfold impl_ladenOk.f
    refine Ev.bind e2 ?_
    simp only [iin, Option.bind_some]
    cases e with
    | false => exact ev_neg (by decide) (by rw [hc]; exact Ev.now _)
    | true =>
      refine ev_pos (by trivial) ?_
      by_cases h1 : 0 ≤ m0 ∧ m0 ≤ 400000
      · refine ev_pos (decide_eq_true h1) ?_
        by_cases h2 : -100000000 ≤ m1 ∧ m1 ≤ 100000000
        · refine ev_pos (decide_eq_true h2) (Ev.bind t1 ?_)
          rw [hc, decide_eq_true h1, decide_eq_true h2]
          simp only [Bool.true_and]
          exact Ev.now _
        · refine ev_neg (by simpa using h2) ?_
          rw [hc, decide_eq_false h2]
          simp only [Bool.and_false]
          exact Ev.now _
      · refine ev_neg (by simpa using h1) ?_
        rw [hc, decide_eq_false h1]
        simp only [Bool.and_false, Bool.false_and]
        exact Ev.now _
  generalize hd : (e && decide (0 ≤ m0 ∧ m0 ≤ 400000) && decide (-100000000 ≤ m1 ∧ m1 ≤ 100000000)) = dr at *
  have dry' := dry dr rfl
  by_cases hc : r.2 = -1
  · obtain ⟨h8, h60, t1, t2, hg⟩ := hr hc
    have lad' := lad t1 dr rfl
    have hc' : (r.2 != -1) = false := bne_eq_false_iff_eq.mpr hc
    cases dr with
    | false => exact ⟨_, Ev.bind b1 (Ev.bind dry' (ev_neg (by decide) no)), Ev.bind b2 (ev_pos hc (Ev.bind lad' no2))⟩
    | true =>
      have hP : EnvP M F A := by
        refine ie.1 ?_
        cases e
        · cases hd
        · rfl
      obtain ⟨s, w1, w2⟩ := with_both l h8 m0 m1
      obtain ⟨b, i1, i2⟩ := inside_two hM hP s.1 s.2
      obtain ⟨R, r1, r2⟩ := leaves_loop hM hP m0 m1 l p h60 h8 hg t2 p.length 0 (by omega)
      have hb := burnt_take l p h60 h8 hg t2 0 (by omega)
      have z1 : wrap64 ((-1 : Int) + 1) = 0 := w64 (by omega) (by omega)
      have go : ∀ R', Ev (fun k => if b = true then spec_Leaves.l0 k l p 0 M F A m0 m1 else some (-1 : Int)) R' → Ev (fun k => if b = true then impl_Leaves.l0 k p l p (p.length : Int) 0 M F A m0 m1 else some (-1 : Int)) R' → ∃ R : Int, Ev (fun k => (spec_Burnt.f k l p).bind fun bt => (spec_l2Dry.f k M F A m0 m1).bind fun t => if t = true then spec_Leaves.j0 k l p (bt.2 != -1) M F A m0 m1 else spec_Leaves.j0 k l p true M F A m0 m1) R ∧ Ev (fun k => (impl_Burnt.f k l p).bind fun bt => if bt.2 = -1 then (impl_ladenOk.f k M F A m0 m1 l).bind fun t => impl_Leaves.j0 k l p (!t) M F A m0 m1 else impl_Leaves.j0 k l p true M F A m0 m1) R := by
        intro R' q1 q2
        refine ⟨R', Ev.bind b1 (Ev.bind dry' (ev_pos (by trivial) ?_)), Ev.bind b2 (ev_pos hc (Ev.bind lad' ?_))⟩
        · rw [hc']
          refine ev_succ ?_
          simp only [spec_Leaves.j0]
          refine ev_neg (by decide) (ev_succ ?_)
          simp only [spec_Leaves.l0, z1]
          exact ev_pos (by omega) (ev_pos (by omega) (ev_pos (by omega) (Ev.bind hb (Ev.bind w1 (Ev.bind i1 q1)))))
        · refine ev_succ ?_
          simp only [impl_Leaves.j0, impl_FuelTank_41.f, Option.bind_some, List.nil_append, List.length_nil]
          refine ev_neg (by decide) (Ev.bind w2 (Ev.bind i2 ?_))
          rw [if_pos (by omega)]
          exact q2
      cases b with
      | true => exact go R (ev_pos (by trivial) r1) (ev_pos (by trivial) r2)
      | false => exact go (-1) (ev_neg (by decide) (Ev.now _)) (ev_neg (by decide) (Ev.now _))
  · have hc' : (r.2 != -1) = true := bne_iff_ne.mpr hc
    refine ⟨_, Ev.bind b1 (Ev.bind dry' ?_), Ev.bind b2 (ev_neg hc no2)⟩
    rw [hc']
    cases dr with
    | false => exact ev_neg (by decide) no
    | true => exact ev_pos (by trivial) no

theorem szFuelTankS_eq (l : List S68) (m : Int) (h0 : 0 ≤ m) (h1 : m ≤ 1048576) (hl : l.length ≤ 9223372036854775807) : laws_szFuelTankS.f l m = some (if m - l.length < 0 then -1 else m - l.length) := by
  unfold laws_szFuelTankS.f
  rw [w64 (x := m - (l.length : Int)) (by omega) (by omega)]
  by_cases h : m - (l.length : Int) < 0
  · rw [if_pos h, if_pos h]
  · rw [if_neg h, if_neg h]

def c_FuelTank (x : S68) : S60 := ⟨x.f0, x.f1⟩
theorem toFuelTankS_loop (x0 : List S68) (hx : x0.length ≤ 9223372036854775807) : ∀ (d n : Nat) (x3 : List S60), n + d = x0.length → x3.length = x0.length → x3.take n = (x0.map c_FuelTank).take n → Ev (fun k => laws_toFuelTankS.l0 k x0 x3 (n : Int)) (x0.map c_FuelTank) := by
  intro d
  induction d with
  | zero =>
    intro n x3 hn hl ht
    refine ev_succ ?_
    simp only [laws_toFuelTankS.l0]
    refine ev_neg (by omega) ?_
    have e : x3 = x0.map c_FuelTank := by rw [← List.take_of_length_le (l := x3) (i := n) (by omega), ht, List.take_of_length_le (by simp; omega)]
    rw [e]
    exact Ev.now _
  | succ d ih =>
    intro n x3 hn hl ht
    have e : (⟨(rd_T68 x0 (n : Int)).f0, (rd_T68 x0 (n : Int)).f1⟩ : S60) = (x0.map c_FuelTank).getD n (c_FuelTank z68) := by
      rw [getD_map]
      simp [rd_T68, c_FuelTank]
    refine ev_succ ?_
    simp only [laws_toFuelTankS.l0, laws_toFuelTank.f, Option.bind_some, Int.toNat_natCast]
    refine ev_pos (by omega) (ev_pos (by omega) (ev_pos (by omega) ?_))
    rw [e, w64_succ (m := x0.length) (by omega) hx]
    exact ih (n + 1) _ (by omega) (by simpa using hl) (take_set_succ _ (by simp; omega) (by simpa using hl) ht)
theorem toFuelTankS_ev (l : List S68) (h : l.length ≤ 1048576) : Ev (fun k => laws_toFuelTankS.f k l) (l.map c_FuelTank) := by
  unfold laws_toFuelTankS.f
  refine ev_pos (by omega) (ev_pos (by omega) ?_)
  exact toFuelTankS_loop l (by omega) l.length 0 _ (by omega) (by simp) (by simp)

theorem eqFuelTank_eq (a0 : Int) (a1 : Int) : laws_eqFuelTank.f a0 a1 a0 a1 = some true := by
  simp [laws_eqFuelTank.f]
theorem eqFuelTankS_loop (x0 : List S60) (hx : x0.length ≤ 9223372036854775807) : ∀ (d n : Nat), n + d = x0.length → Ev (fun k => laws_eqFuelTankS.l0 k x0 x0 (n : Int)) true := by
  intro d
  induction d with
  | zero =>
    intro n hn
    refine ev_succ ?_
    simp only [laws_eqFuelTankS.l0]
    exact ev_neg (by omega) (Ev.now _)
  | succ d ih =>
    intro n hn
    refine ev_succ ?_
    simp only [laws_eqFuelTankS.l0, eqFuelTank_eq, Option.bind_some]
    refine ev_pos (by omega) (ev_pos (by omega) (ev_pos (by omega) (ev_pos (by trivial) ?_)))
    rw [w64_succ (m := x0.length) (by omega) hx]
    exact ih (n + 1) (by omega)
theorem eqFuelTankS_ev (l : List S60) (h : l.length ≤ 9223372036854775807) : Ev (fun k => laws_eqFuelTankS.f k l l) true := by
  unfold laws_eqFuelTankS.f
  exact ev_pos (by trivial) (eqFuelTankS_loop l h l.length 0 (by omega))

theorem szBurnS_eq (l : List S70) (m : Int) (h0 : 0 ≤ m) (h1 : m ≤ 1048576) (hl : l.length ≤ 9223372036854775807) : laws_szBurnS.f l m = some (if m - l.length < 0 then -1 else m - l.length) := by
  unfold laws_szBurnS.f
  rw [w64 (x := m - (l.length : Int)) (by omega) (by omega)]
  by_cases h : m - (l.length : Int) < 0
  · rw [if_pos h, if_pos h]
  · rw [if_neg h, if_neg h]

def c_Burn (x : S70) : S62 := ⟨x.f0, x.f1⟩
theorem toBurnS_loop (x0 : List S70) (hx : x0.length ≤ 9223372036854775807) : ∀ (d n : Nat) (x3 : List S62), n + d = x0.length → x3.length = x0.length → x3.take n = (x0.map c_Burn).take n → Ev (fun k => laws_toBurnS.l0 k x0 x3 (n : Int)) (x0.map c_Burn) := by
  intro d
  induction d with
  | zero =>
    intro n x3 hn hl ht
    refine ev_succ ?_
    simp only [laws_toBurnS.l0]
    refine ev_neg (by omega) ?_
    have e : x3 = x0.map c_Burn := by rw [← List.take_of_length_le (l := x3) (i := n) (by omega), ht, List.take_of_length_le (by simp; omega)]
    rw [e]
    exact Ev.now _
  | succ d ih =>
    intro n x3 hn hl ht
    have e : (⟨(rd_T70 x0 (n : Int)).f0, (rd_T70 x0 (n : Int)).f1⟩ : S62) = (x0.map c_Burn).getD n (c_Burn z70) := by
      rw [getD_map]
      simp [rd_T70, c_Burn]
    refine ev_succ ?_
    simp only [laws_toBurnS.l0, laws_toBurn.f, Option.bind_some, Int.toNat_natCast]
    refine ev_pos (by omega) (ev_pos (by omega) (ev_pos (by omega) ?_))
    rw [e, w64_succ (m := x0.length) (by omega) hx]
    exact ih (n + 1) _ (by omega) (by simpa using hl) (take_set_succ _ (by simp; omega) (by simpa using hl) ht)
theorem toBurnS_ev (l : List S70) (h : l.length ≤ 1048576) : Ev (fun k => laws_toBurnS.f k l) (l.map c_Burn) := by
  unfold laws_toBurnS.f
  refine ev_pos (by omega) (ev_pos (by omega) ?_)
  exact toBurnS_loop l (by omega) l.length 0 _ (by omega) (by simp) (by simp)

theorem eqBurn_eq (a0 : Int) (a1 : Int) : laws_eqBurn.f a0 a1 a0 a1 = some true := by
  simp [laws_eqBurn.f]
theorem eqBurnS_loop (x0 : List S62) (hx : x0.length ≤ 9223372036854775807) : ∀ (d n : Nat), n + d = x0.length → Ev (fun k => laws_eqBurnS.l0 k x0 x0 (n : Int)) true := by
  intro d
  induction d with
  | zero =>
    intro n hn
    refine ev_succ ?_
    simp only [laws_eqBurnS.l0]
    exact ev_neg (by omega) (Ev.now _)
  | succ d ih =>
    intro n hn
    refine ev_succ ?_
    simp only [laws_eqBurnS.l0, eqBurn_eq, Option.bind_some]
    refine ev_pos (by omega) (ev_pos (by omega) (ev_pos (by omega) (ev_pos (by trivial) ?_)))
    rw [w64_succ (m := x0.length) (by omega) hx]
    exact ih (n + 1) (by omega)
theorem eqBurnS_ev (l : List S62) (h : l.length ≤ 9223372036854775807) : Ev (fun k => laws_eqBurnS.f k l l) true := by
  unfold laws_eqBurnS.f
  exact ev_pos (by trivial) (eqBurnS_loop l h l.length 0 (by omega))

theorem FnExactLeaves : laws_FnExactLeaves.PureR := by
  intro M F A m0 m1 l p ⟨hm, _⟩ ⟨hf, _⟩ ⟨ha, _⟩ _ _ ⟨hx, _⟩ ⟨hy, _⟩
  refine Ev.rounds ?_
  unfold laws_FnExactLeaves.f
  obtain ⟨t, ht0, htm, hs⟩ := szEnvelope_ok M F A hm hf ha 1048576 (by omega) (by omega)
  rw [ht0]
  simp only [Option.bind_some, laws_toSum2.f]
  by_cases h : t < 0
  · exact ev_pos h (Ev.now _)
  have hl := hs (by omega)
  refine ev_neg h ?_
  rw [szFuelTankS_eq l _ (by omega) htm hx]
  simp only [Option.bind_some]
  by_cases hb2 : t - l.length < 0
  · rw [if_pos hb2]
    exact ev_pos (by omega) (Ev.now _)
  rw [if_neg hb2]
  refine ev_neg hb2 ?_
  rw [szBurnS_eq p _ (by omega) (by omega) hy]
  simp only [Option.bind_some]
  by_cases hb3 : t - l.length - p.length < 0
  · rw [if_pos hb3]
    exact ev_pos (by omega) (Ev.now _)
  rw [if_neg hb3]
  refine ev_neg hb3 ?_
  obtain ⟨R, h1, h2⟩ := leaves_both M F A hl m0 m1 (l.map c_FuelTank) (by simp; omega) (p.map c_Burn)
  have he := toEnvelope_ev M F A hl
  have hq := toFuelTankS_ev l (by omega)
  have hq2 := toBurnS_ev p (by omega)
  have hE := eqEnvelope_ev M F A hl
  have he1 := eqFuelTankS_ev (l.map c_FuelTank) (by simp; omega)
  have he2 := eqBurnS_ev (p.map c_Burn) (by simp; omega)
  exact Ev.bind he (Ev.bind hq (Ev.bind hq2 (Ev.bind h1 (Ev.bind he (Ev.bind hq (Ev.bind hq2 (Ev.bind h2 (ev_pos (by trivial) (Ev.bind he (Ev.bind hE (ev_pos (by trivial) (Ev.bind hq (Ev.bind he1 (ev_pos (by trivial) (Ev.bind hq2 (Ev.bind he2 (ev_pos (by trivial) (Ev.now _))))))))))))))))))

end Go.Proofs.Yteedbciobdcmaaa.Pure
