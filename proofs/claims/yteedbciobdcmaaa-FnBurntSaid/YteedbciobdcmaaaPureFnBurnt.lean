/- Proved here: a plan told for drawn tanks burns what is gone, stays inside to its last burn, and is told in full just where nothing is left; no condition. -/
import Derived.Test.YteedbciobdcmaaaPureDefFnBurnt
namespace Go.Proofs.Yteedbciobdcmaaa.Pure
open Go.RowKit Go.Proofs.Yteedbciobdcmaaa.QFnBurnt Go.Proofs.YteedbciobdcmaaaW.PrintWords Go.Proofs.YteedbciobdcmaaaW.PrintLast Go.Proofs.YteedbciobdcmaaaW.PrintMore
set_option linter.unusedVariables false
set_option linter.unusedSimpArgs false

theorem ev_pos {c : Prop} [Decidable c] {α : Type} {A B : Nat → Option α} {r : α} (h : c) (k : Ev A r) : Ev (fun n => if c then A n else B n) r := by
  simpa only [if_pos h] using k
theorem ev_neg {c : Prop} [Decidable c] {α : Type} {A B : Nat → Option α} {r : α} (h : ¬ c) (k : Ev B r) : Ev (fun n => if c then A n else B n) r := by
  simpa only [if_neg h] using k
theorem ev_succ {α : Type} {g : Nat → Option α} {r : α} (h : Ev (fun k => g (k + 1)) r) : Ev g r := Ev.step (fun _ => rfl) h
theorem ex_succ {α : Type} {g : Nat → Option α} (h : ∃ r, Ev (fun k => g (k + 1)) r) : ∃ r, Ev g r := by
  obtain ⟨r, h⟩ := h
  exact ⟨r, ev_succ h⟩
theorem ev_one {α : Type} {g : Nat → Option α} {r q : α} (h : Ev g r) (h' : Ev g q) : r = q := by
  obtain ⟨K, hK⟩ := h
  obtain ⟨L, hL⟩ := h'
  have a := hK (max K L) (Nat.le_max_left _ _)
  have b := hL (max K L) (Nat.le_max_right _ _)
  exact Option.some.inj (a.symm.trans b)
theorem ev_bool {α : Type} {A B : Nat → Option α} {r : α} (b : Bool) (h1 : b = true → Ev A r) (h2 : b = false → Ev B r) : Ev (fun n => if b = true then A n else B n) r := by
  cases b with
  | true => exact ev_pos (by trivial) (h1 rfl)
  | false => exact ev_neg (by decide) (h2 rfl)
theorem bool_eq_of_iff {a b : Bool} {p : Prop} (h : a = true ↔ p) (h' : b = true ↔ p) : a = b := by
  rw [Bool.eq_iff_iff]
  exact h.trans h'.symm
theorem w64 {x : Int} (h0 : -9223372036854775808 ≤ x) (h1 : x ≤ 9223372036854775807) : wrap64 x = x := by
  unfold wrap64
  omega
theorem w64_succ {n m : Nat} (h : n < m) (hm : m ≤ 9223372036854775807) : wrap64 ((n : Int) + 1) = ((n + 1 : Nat) : Int) := by
  unfold wrap64
  omega
theorem rd_nat (l : List Int) (n : Nat) : rd l (n : Int) = l.getD n 0 := by
  unfold rd
  rw [Int.toNat_natCast]
theorem take_set_succ {α : Type} (d : α) {x0 x3 : List α} {n : Nat} (h : n < x0.length) (hl : x3.length = x0.length) (ht : x3.take n = x0.take n) : (x3.set n (x0.getD n d)).take (n + 1) = x0.take (n + 1) := by
  apply List.ext_getElem?
  intro i
  simp only [List.getElem?_take, List.getElem?_set]
  by_cases hi : i < n + 1
  · rw [if_pos hi, if_pos hi]
    by_cases he : n = i
    · subst he
      rw [if_pos rfl, if_pos (by omega), List.getD_eq_getElem?_getD, List.getElem?_eq_getElem h]
      rfl
    · rw [if_neg he]
      have := congrArg (fun l => l[i]?) ht
      simpa only [List.getElem?_take, if_pos (show i < n by omega)] using this
  · rw [if_neg hi, if_neg hi]
theorem u8_bounds {l : List Int} (h : ∀ x ∈ l, 0 ≤ x ∧ x ≤ 255) (n : Nat) : 0 ≤ l.getD n 0 ∧ l.getD n 0 ≤ 255 := by
  rw [List.getD_eq_getElem?_getD]
  cases e : l[n]? with
  | none => simp
  | some x =>
    exact h x (List.mem_of_getElem? e)
theorem getD_map {α β : Type} (c : α → β) (l : List α) (n : Nat) (d : α) : (l.map c).getD n (c d) = c (l.getD n d) := by
  simp only [List.getD_eq_getElem?_getD, List.getElem?_map]
  cases l[n]? <;> rfl
/-- It ends, with true just where p holds. -/
def EvB (g : Nat → Option Bool) (p : Prop) : Prop := ∃ b, Ev g b ∧ (b = true ↔ p)
theorem EvB.iff {g : Nat → Option Bool} {p q : Prop} (h : EvB g p) (h' : p ↔ q) : EvB g q := by
  obtain ⟨b, hb, ib⟩ := h
  exact ⟨b, hb, ib.trans h'⟩
theorem EvB.dec {c : Prop} [Decidable c] : EvB (fun _ => some (decide c)) c := ⟨decide c, Ev.now _, decide_eq_true_iff⟩
theorem EvB.ite {c : Prop} [Decidable c] {A : Nat → Option Bool} {p : Prop} (h : EvB A p) : EvB (fun n => if c then A n else some false) (c ∧ p) := by
  obtain ⟨b, hb, ib⟩ := h
  by_cases hc : c
  · exact ⟨b, ev_pos hc hb, ⟨fun h => ⟨hc, ib.1 h⟩, fun h => ib.2 h.2⟩⟩
  · exact ⟨false, ev_neg hc (Ev.now _), ⟨fun h => (Bool.false_ne_true h).elim, fun h => absurd h.1 hc⟩⟩
theorem EvB.ite_not {c : Prop} [Decidable c] {A : Nat → Option Bool} {p : Prop} (h : EvB A p) : EvB (fun n => if c then some false else A n) (¬ c ∧ p) := by
  obtain ⟨b, hb, ib⟩ := h
  by_cases hc : c
  · exact ⟨false, ev_pos hc (Ev.now _), ⟨fun h => (Bool.false_ne_true h).elim, fun h => absurd hc h.1⟩⟩
  · exact ⟨b, ev_neg hc hb, ⟨fun h => ⟨hc, ib.1 h⟩, fun h => ib.2 h.2⟩⟩
theorem EvB.bind {g A : Nat → Option Bool} {p q : Prop} (h : EvB g p) (h' : EvB A q) : EvB (fun n => (g n).bind fun t => if t = true then A n else some false) (p ∧ q) := by
  obtain ⟨b, hb, ib⟩ := h
  obtain ⟨c, hc, ic⟩ := h'
  cases b with
  | true => exact ⟨c, Ev.bind hb (ev_pos rfl hc), ⟨fun h => ⟨ib.1 rfl, ic.1 h⟩, fun h => ic.2 h.2⟩⟩
  | false => exact ⟨false, Ev.bind hb (ev_neg (by decide) (Ev.now _)), ⟨fun h => (Bool.false_ne_true h).elim, fun h => absurd (ib.2 h.1) (by decide)⟩⟩
theorem EvB.last {g : Nat → Option Bool} {p : Prop} (h : EvB g p) : EvB (fun n => (g n).bind fun t => some t) p := by
  obtain ⟨b, hb, ib⟩ := h
  exact ⟨b, Ev.bind hb (Ev.now _), ib⟩
theorem EvB.same {g g' : Nat → Option Bool} {p : Prop} (h : EvB g p) (h' : EvB g' p) : ∃ b, Ev g b ∧ Ev g' b ∧ (b = true ↔ p) := by
  obtain ⟨b, hb, ib⟩ := h
  obtain ⟨c, hc, ic⟩ := h'
  obtain rfl : c = b := bool_eq_of_iff ic ib
  exact ⟨c, hb, hc, ib⟩
theorem EvB.bindE {g A B : Nat → Option Bool} {p q : Prop} (hB : Ev B false) (h : EvB g p) (h' : EvB A q) : EvB (fun n => (g n).bind fun t => if t = true then A n else B n) (p ∧ q) := by
  obtain ⟨b, hb, ib⟩ := h
  obtain ⟨c, hc, ic⟩ := h'
  cases b with
  | true => exact ⟨c, Ev.bind hb (ev_pos rfl hc), ⟨fun h => ⟨ib.1 rfl, ic.1 h⟩, fun h => ic.2 h.2⟩⟩
  | false => exact ⟨false, Ev.bind hb (ev_neg (by decide) hB), ⟨fun h => (Bool.false_ne_true h).elim, fun h => absurd (ib.2 h.1) (by decide)⟩⟩
theorem EvB.iteE {c : Prop} [Decidable c] {A B : Nat → Option Bool} {p : Prop} (hB : Ev B false) (h : EvB A p) : EvB (fun n => if c then A n else B n) (c ∧ p) := by
  obtain ⟨b, hb, ib⟩ := h
  by_cases hc : c
  · exact ⟨b, ev_pos hc hb, ⟨fun h => ⟨hc, ib.1 h⟩, fun h => ib.2 h.2⟩⟩
  · exact ⟨false, ev_neg hc hB, ⟨fun h => (Bool.false_ne_true h).elim, fun h => absurd h.1 hc⟩⟩
theorem EvB.bindN {g : Nat → Option Bool} {J : Nat → Bool → Option Bool} {p q : Prop} (hB : Ev (fun n => J n true) false) (h : EvB g p) (h' : EvB (fun n => J n false) q) : EvB (fun n => (g n).bind fun t => J n (!t)) (p ∧ q) := by
  obtain ⟨b, hb, ib⟩ := h
  obtain ⟨c, hc, ic⟩ := h'
  cases b with
  | true => exact ⟨c, Ev.bind hb hc, ⟨fun h => ⟨ib.1 rfl, ic.1 h⟩, fun h => ic.2 h.2⟩⟩
  | false => exact ⟨false, Ev.bind hb hB, ⟨fun h => (Bool.false_ne_true h).elim, fun h => absurd (ib.2 h.1) (by decide)⟩⟩
theorem EvB.succ {g : Nat → Option Bool} {p : Prop} (h : EvB (fun k => g (k + 1)) p) : EvB g p := by
  obtain ⟨b, hb, ib⟩ := h
  exact ⟨b, ev_succ hb, ib⟩
theorem EvB.true_ {p : Prop} (h : p) : EvB (fun _ => some true) p := ⟨true, Ev.now _, ⟨fun _ => h, fun _ => rfl⟩⟩
theorem EvB.false_ {p : Prop} (h : ¬ p) : EvB (fun _ => some false) p := ⟨false, Ev.now _, ⟨fun e => (Bool.false_ne_true e).elim, fun e => absurd e h⟩⟩
theorem EvB.pos {c : Prop} [Decidable c] {A B : Nat → Option Bool} {p : Prop} (hc : c) (h : EvB A p) : EvB (fun n => if c then A n else B n) p := by
  simpa only [if_pos hc] using h
theorem EvB.neg {c : Prop} [Decidable c] {A B : Nat → Option Bool} {p : Prop} (hc : ¬ c) (h : EvB B p) : EvB (fun n => if c then A n else B n) p := by
  simpa only [if_neg hc] using h

def AllIn (l : List Int) (lo hi : Int) : Prop := ∀ n, n < l.length → lo ≤ l.getD n 0 ∧ l.getD n 0 ≤ hi
def Rise (l : List Int) : Prop := ∀ n, n + 1 < l.length → l.getD n 0 < l.getD (n + 1) 0

theorem impl_in_eq (a b c : Int) : impl_in.f a b c = some (decide (b ≤ a ∧ a ≤ c)) := by
  unfold impl_in.f
  split
  · congr 1
    rw [decide_eq_decide]
    omega
  · congr 1
    symm
    rw [decide_eq_false_iff_not]
    omega
theorem impl_in_evB (a b c : Int) : EvB (fun _ => impl_in.f a b c) (b ≤ a ∧ a ≤ c) := by
  rw [impl_in_eq]
  exact EvB.dec

theorem impl_all_loop (l : List Int) (lo hi : Int) (hx : l.length ≤ 9223372036854775807) : ∀ (d n : Nat), n + d = l.length → (∀ m, m < n → lo ≤ l.getD m 0 ∧ l.getD m 0 ≤ hi) → ∃ b, Ev (fun k => impl_allIn.l0 k lo hi l (l.length : Int) (n : Int)) b ∧ (b = true ↔ AllIn l lo hi) := by
  intro d
  induction d with
  | zero =>
    intro n hn hm
    refine ⟨true, ?_, ⟨fun _ m h => hm m (by omega), fun _ => rfl⟩⟩
    refine ev_succ ?_
    simp only [impl_allIn.l0]
    exact ev_neg (by omega) (Ev.now _)
  | succ d ih =>
    intro n hn hm
    by_cases h : lo ≤ l.getD n 0 ∧ l.getD n 0 ≤ hi
    · obtain ⟨b, hb, hiff⟩ := ih (n + 1) (by omega) (fun m hm' => by
        by_cases e : m = n
        · subst e; exact h
        · exact hm m (by omega))
      refine ⟨b, ?_, hiff⟩
      refine ev_succ ?_
      simp only [impl_allIn.l0, impl_in_eq, Option.bind_some]
      refine ev_pos (by omega) (ev_pos (by omega) (ev_pos (by omega) (ev_pos (by rw [rd_nat]; simpa using h) ?_)))
      rw [w64_succ (m := l.length) (by omega) hx]
      exact hb
    · refine ⟨false, ?_, ⟨fun h' => (Bool.false_ne_true h').elim, fun h' => absurd (h' n (by omega)) h⟩⟩
      refine ev_succ ?_
      simp only [impl_allIn.l0, impl_in_eq, Option.bind_some]
      exact ev_pos (by omega) (ev_pos (by omega) (ev_pos (by omega) (ev_neg (by rw [rd_nat]; simpa using h) (Ev.now _))))
theorem impl_all_ev (l : List Int) (lo hi : Int) (hx : l.length ≤ 9223372036854775807) : ∃ b, Ev (fun k => impl_allIn.f k l lo hi) b ∧ (b = true ↔ AllIn l lo hi) := by
  unfold impl_allIn.f
  exact impl_all_loop l lo hi hx l.length 0 (by omega) (fun m h => by omega)

theorem impl_asc_loop (l : List Int) (lo hi : Int) (hx : l.length ≤ 9223372036854775807) : ∀ (d n : Nat), n + d = l.length → (∀ m, m < n → lo ≤ l.getD m 0 ∧ l.getD m 0 ≤ hi) → (∀ m, m + 1 < n → l.getD m 0 < l.getD (m + 1) 0) → ∃ b, Ev (fun k => impl_ascends.l0 k l lo hi l (l.length : Int) (n : Int)) b ∧ (b = true ↔ AllIn l lo hi ∧ Rise l) := by
  intro d
  induction d with
  | zero =>
    intro n hn hm hr
    refine ⟨true, ?_, ⟨fun _ => ⟨fun m h => hm m (by omega), fun m h => hr m (by omega)⟩, fun _ => rfl⟩⟩
    refine ev_succ ?_
    simp only [impl_ascends.l0]
    exact ev_neg (by omega) (Ev.now _)
  | succ d ih =>
    intro n hn hm hr
    by_cases h : lo ≤ l.getD n 0 ∧ l.getD n 0 ≤ hi
    · have hm1 : ∀ m, m < n + 1 → lo ≤ l.getD m 0 ∧ l.getD m 0 ≤ hi := fun m hm' => by
        by_cases e : m = n
        · subst e; exact h
        · exact hm m (by omega)
      by_cases h0 : n = 0
      · obtain ⟨b, hb, hiff⟩ := ih (n + 1) (by omega) hm1 (fun m hm' => by omega)
        refine ⟨b, ?_, hiff⟩
        refine ev_succ ?_
        simp only [impl_ascends.l0, impl_in_eq, Option.bind_some]
        refine ev_pos (by omega) (ev_pos (by omega) (ev_pos (by omega) (ev_pos (by rw [rd_nat]; simpa using h) (ev_neg (by omega) ?_))))
        rw [w64_succ (m := l.length) (by omega) hx]
        exact hb
      · have e1 : wrap64 ((n : Int) - 1) = ((n - 1 : Nat) : Int) := by rw [w64 (by omega) (by omega)]; omega
        by_cases h2 : l.getD (n - 1) 0 < l.getD n 0
        · obtain ⟨b, hb, hiff⟩ := ih (n + 1) (by omega) hm1 (fun m hm' => by
            by_cases e : m + 1 = n
            · have : m = n - 1 := by omega
              subst this
              rw [e]; exact h2
            · exact hr m (by omega))
          refine ⟨b, ?_, hiff⟩
          refine ev_succ ?_
          simp only [impl_ascends.l0, impl_in_eq, Option.bind_some, e1, rd_nat]
          refine ev_pos (by omega) (ev_pos (by omega) (ev_pos (by omega) (ev_pos (by simpa using h) (ev_pos (by omega) (ev_pos (by omega) (ev_pos (by omega) (ev_neg (by omega) ?_)))))))
          rw [w64_succ (m := l.length) (by omega) hx]
          exact hb
        · refine ⟨false, ?_, ⟨fun h' => (Bool.false_ne_true h').elim, fun h' => absurd (by have := h'.2 (n - 1) (by omega); rwa [show n - 1 + 1 = n by omega] at this) h2⟩⟩
          refine ev_succ ?_
          simp only [impl_ascends.l0, impl_in_eq, Option.bind_some, e1, rd_nat]
          exact ev_pos (by omega) (ev_pos (by omega) (ev_pos (by omega) (ev_pos (by simpa using h) (ev_pos (by omega) (ev_pos (by omega) (ev_pos (by omega) (ev_pos (by omega) (Ev.now _))))))))
    · refine ⟨false, ?_, ⟨fun h' => (Bool.false_ne_true h').elim, fun h' => absurd (h'.1 n (by omega)) h⟩⟩
      refine ev_succ ?_
      simp only [impl_ascends.l0, impl_in_eq, Option.bind_some]
      exact ev_pos (by omega) (ev_pos (by omega) (ev_pos (by omega) (ev_neg (by rw [rd_nat]; simpa using h) (Ev.now _))))
theorem impl_asc_ev (l : List Int) (lo hi : Int) (hx : l.length ≤ 9223372036854775807) : ∃ b, Ev (fun k => impl_ascends.f k l lo hi) b ∧ (b = true ↔ AllIn l lo hi ∧ Rise l) := by
  unfold impl_ascends.f
  exact impl_asc_loop l lo hi hx l.length 0 (by omega) (fun m h => by omega) (fun m h => by omega)

def Under (F A : List Int) : Prop := ∀ n, n < F.length → F.getD n 0 ≤ A.getD n 0
def EnvP (M F A : List Int) : Prop := (2 ≤ M.length ∧ M.length ≤ 10) ∧ F.length = M.length ∧ A.length = M.length ∧ Rise M ∧ AllIn M 0 400000 ∧ AllIn F (-1000) 1000 ∧ AllIn A (-1000) 1000 ∧ Under F A
theorem impl_env_loop (M F A : List Int) (hF : F.length = M.length) (hA : A.length = M.length) (hx : M.length ≤ 1000) : ∀ (d n : Nat), n + d = M.length → (∀ m, m < n → F.getD m 0 ≤ A.getD m 0) → EvB (fun k => impl_EnvelopeOk.l0 k F (F.length : Int) (n : Int) M F A) (Under F A ∧ AllIn F (-1000) 1000 ∧ AllIn A (-1000) 1000) := by
  intro d
  induction d with
  | zero =>
    intro n hn hm
    refine EvB.succ ?_
    simp only [impl_EnvelopeOk.l0]
    refine EvB.neg (by omega) ((EvB.bind (impl_all_ev F _ _ (by omega)) (EvB.last (impl_all_ev A _ _ (by omega)))).iff ?_)
    exact ⟨fun h => ⟨fun m h' => hm m (by omega), h⟩, fun h => h.2⟩
  | succ d ih =>
    intro n hn hm
    refine EvB.succ ?_
    simp only [impl_EnvelopeOk.l0, rd_nat]
    refine EvB.pos (by omega) (EvB.pos (by omega) (EvB.pos (by omega) (EvB.pos (by omega) ?_)))
    by_cases h : F.getD n 0 > A.getD n 0
    · exact EvB.pos h (EvB.false_ (fun h' => by have := h'.1 n (by omega); omega))
    · refine EvB.neg h ?_
      rw [w64_succ (m := M.length) (n := n) (by omega) (by omega)]
      refine ih (n + 1) (by omega) (fun m hm' => ?_)
      by_cases e : m = n
      · subst e; omega
      · exact hm m (by omega)
theorem impl_env_ev (M F A : List Int) (h : M.length + F.length + A.length ≤ 1048576) : EvB (fun k => impl_EnvelopeOk.f k M F A) (EnvP M F A) := by
  have bad : Ev (fun k => impl_EnvelopeOk.j0 k true M F A) false := by
    refine ev_succ ?_
    simp only [impl_EnvelopeOk.j0]
    exact ev_pos (by trivial) (Ev.now _)
  by_cases hs : (2 ≤ M.length ∧ M.length ≤ 10) ∧ F.length = M.length ∧ A.length = M.length
  · have good : EvB (fun k => impl_EnvelopeOk.j0 k false M F A) (Under F A ∧ AllIn F (-1000) 1000 ∧ AllIn A (-1000) 1000) := by
      refine EvB.succ ?_
      simp only [impl_EnvelopeOk.j0]
      exact EvB.neg (by decide) (impl_env_loop M F A hs.2.1 hs.2.2 (by omega) M.length 0 (by omega) (fun m h => by omega))
    unfold impl_EnvelopeOk.f
    refine (EvB.bindE bad (impl_in_evB _ _ _) (EvB.iteE bad (EvB.iteE bad (EvB.bindN (J := fun k b => impl_EnvelopeOk.j0 k b M F A) bad (impl_asc_ev M _ _ (by omega)) good)))).iff ?_
    unfold EnvP
    constructor
    · rintro ⟨h1, h2, h3, ⟨h4, h5⟩, h6, h7, h8⟩; exact ⟨hs.1, hs.2.1, hs.2.2, h5, h4, h7, h8, h6⟩
    · rintro ⟨h1, h2, h3, h4, h5, h6, h7, h8⟩; exact ⟨by omega, by omega, by omega, ⟨h5, h4⟩, h8, h6, h7⟩
  · refine ⟨false, ?_, ⟨fun e => (Bool.false_ne_true e).elim, fun e => absurd ⟨e.1, e.2.1, e.2.2.1⟩ hs⟩⟩
    simp only [impl_EnvelopeOk.f, impl_in_eq, Option.bind_some]
    by_cases h1 : 2 ≤ (M.length : Int) ∧ (M.length : Int) ≤ 10
    · simp only [decide_eq_true h1]
      by_cases h2 : (F.length : Int) = (M.length : Int)
      · by_cases h3 : (A.length : Int) = (M.length : Int)
        · exact absurd ⟨by omega, by omega, by omega⟩ hs
        · exact ev_pos (by trivial) (ev_pos h2 (ev_neg h3 bad))
      · exact ev_pos (by trivial) (ev_neg h2 bad)
    · simp only [decide_eq_false h1]
      exact ev_neg (by decide) bad

def num (X Y : List Int) (x : Int) (i : Nat) : Int := wrap64 ((wrap64 ((Y.getD i 0) * (wrap64 ((X.getD (i + 1) 0) - (X.getD i 0))))) + (wrap64 ((wrap64 ((Y.getD (i + 1) 0) - (Y.getD i 0))) * (wrap64 (x - (X.getD i 0))))))
theorem last_nat {T : List Int} (h : 1 ≤ T.length) (h' : T.length ≤ 1048576) : wrap64 ((T.length : Int) - 1) = ((T.length - 1 : Nat) : Int) := by
  rw [w64 (by omega) (by omega)]
  omega
theorem piece_loop (X : List Int) (x : Int) (hx : X.length ≤ 1048576) : ∀ (d n : Nat), n + 2 + d = X.length → ∃ r : Nat, r + 1 < X.length ∧ Ev (fun k => impl_piece.l0 k X x (n : Int)) (r : Int) := by
  intro d
  induction d with
  | zero =>
    intro n hn
    have e : wrap64 ((n : Int) + 2) = (n : Int) + 2 := w64 (by omega) (by omega)
    refine ⟨n, by omega, ev_succ ?_⟩
    simp only [impl_piece.l0, e]
    exact ev_neg (by omega) (Ev.now _)
  | succ d ih =>
    intro n hn
    have e : wrap64 ((n : Int) + 2) = (n : Int) + 2 := w64 (by omega) (by omega)
    have e1 := w64_succ (m := X.length) (n := n) (by omega) (by omega)
    by_cases h : rd X ((n + 1 : Nat) : Int) ≤ x
    · obtain ⟨r, h0, h2⟩ := ih (n + 1) (by omega)
      refine ⟨r, h0, ev_succ ?_⟩
      simp only [impl_piece.l0, e, e1]
      exact ev_pos (by omega) (ev_pos (by omega) (ev_pos (by omega) (ev_pos h h2)))
    · refine ⟨n, by omega, ev_succ ?_⟩
      simp only [impl_piece.l0, e, e1]
      exact ev_pos (by omega) (ev_pos (by omega) (ev_pos (by omega) (ev_neg h (Ev.now _))))
theorem inside_ev {M F A : List Int} (hP : EnvP M F A) (x y : Int) : ∃ b : Bool, Ev (fun k => impl_inside.f k M F A x y) b := by
  have b2 : Ev (fun k => impl_inside.j0 k true M F A x y) false := by
    refine ev_succ ?_
    simp only [impl_inside.j0]
    exact ev_pos (by trivial) (Ev.now _)
  obtain ⟨hl, hF, hA, _⟩ := hP
  obtain ⟨i, hi, p2⟩ := piece_loop M x (by omega) (M.length - 2) 0 (by omega)
  have e := w64_succ (m := M.length) (n := i) (by omega) (by omega)
  have k0 := Int.natCast_nonneg i
  have k1 : (i : Int) < (M.length : Int) := by omega
  have k2 : ((i + 1 : Nat) : Int) < (M.length : Int) := by omega
  have k3 : (i : Int) < (F.length : Int) := by omega
  have k4 : ((i + 1 : Nat) : Int) < (F.length : Int) := by omega
  have k6 : (i : Int) < (A.length : Int) := by omega
  have k7 : ((i + 1 : Nat) : Int) < (A.length : Int) := by omega
  have k5 := Int.natCast_nonneg (i + 1)
  have core : ∃ b : Bool, Ev (fun k => impl_inside.j0 k false M F A x y) b := by
    by_cases c : wrap64 (y * wrap64 (M.getD (i + 1) 0 - M.getD i 0)) ≥ wrap64 (num M F x i * x)
    · refine ⟨decide (wrap64 (y * wrap64 (M.getD (i + 1) 0 - M.getD i 0)) ≤ wrap64 (num M A x i * x)), ev_succ ?_⟩
      simp only [impl_inside.j0, impl_piece.f]
      refine ev_neg (by decide) (Ev.bind p2 ?_)
      simp only [e, rd_nat, impl_between.f, Option.bind_some]
      exact ev_pos k0 (ev_pos k1 (ev_pos k5 (ev_pos k2 (ev_pos k3 (ev_pos k4 (ev_pos k6 (ev_pos k7 (ev_pos c (Ev.now _)))))))))
    · refine ⟨false, ev_succ ?_⟩
      simp only [impl_inside.j0, impl_piece.f]
      refine ev_neg (by decide) (Ev.bind p2 ?_)
      simp only [e, rd_nat, impl_between.f, Option.bind_some]
      exact ev_pos k0 (ev_pos k1 (ev_pos k5 (ev_pos k2 (ev_pos k3 (ev_pos k4 (ev_pos k6 (ev_pos k7 (ev_neg c (Ev.now _)))))))))
  obtain ⟨r, hr⟩ := core
  have ee := last_nat (T := M) (by omega) (by omega)
  have z : rd M 0 = M.getD 0 0 := rd_nat M 0
  unfold impl_inside.f
  simp only [ee, rd_nat, z, impl_in_eq, Option.bind_some]
  by_cases hx' : mx (M.getD 0 0) 1 ≤ x ∧ x ≤ M.getD (M.length - 1) 0
  · simp only [decide_eq_true hx']
    by_cases hy : (-1000000000 : Int) ≤ y ∧ y ≤ 1000000000
    · simp only [decide_eq_true hy]
      exact ⟨r, ev_pos (by omega) (ev_pos (by omega) (ev_pos (by omega) (ev_pos (by trivial) hr)))⟩
    · simp only [decide_eq_false hy]
      exact ⟨_, ev_pos (by omega) (ev_pos (by omega) (ev_pos (by omega) (ev_pos (by trivial) b2)))⟩
  · simp only [decide_eq_false hx']
    exact ⟨_, ev_pos (by omega) (ev_pos (by omega) (ev_pos (by omega) (ev_neg (by decide) b2)))⟩

abbrev Tk := S60
abbrev Bn := S62
def okT (t : Tk) : Prop := (0 ≤ t.f0 ∧ t.f0 ≤ 10000) ∧ (-1000 ≤ t.f1 ∧ t.f1 ≤ 1000)
def TOk (l : List Tk) : Prop := l.length ≤ 8 ∧ ∀ j : Nat, okT (l.getD j z60)
theorem rdTk (l : List Tk) (n : Nat) : rd_T60 l (n : Int) = l.getD n z60 := by
  unfold rd_T60
  rw [Int.toNat_natCast]
theorem rdBn (l : List Bn) (n : Nat) : rd_T62 l (n : Int) = l.getD n z62 := by
  unfold rd_T62
  rw [Int.toNat_natCast]
/-- good tanks are found good -/
theorem tanks_good {l : List Tk} (h : TOk l) : Ev (fun k => impl_tanksOk.f k l) true := by
  have h8 := h.1
  have loop : ∀ (d n : Nat), n + d = l.length → Ev (fun k => impl_FuelTank_65.l0 k l (l.length : Int) (n : Int)) (-1) := by
    intro d
    induction d with
    | zero =>
      intro n hn
      refine ev_succ ?_
      simp only [impl_FuelTank_65.l0]
      exact ev_neg (by omega) (Ev.now _)
    | succ d ih =>
      intro n hn
      have hw := w64_succ (n := n) (m := l.length) (by omega) (by omega)
      have ho := h.2 n
      refine ev_succ ?_
      simp only [impl_FuelTank_65.l0, impl_tanksOk_1.f, impl_in_eq, rdTk, hw, decide_eq_true ho.1, decide_eq_true ho.2, Option.bind_some, if_true, Bool.not_true, Bool.false_eq_true, if_false]
      exact ev_pos (by omega) (ev_pos (by omega) (ev_pos (by omega) (ih (n + 1) (by omega))))
  unfold impl_tanksOk.f impl_FuelTank_58.f impl_FuelTank_65.f
  refine Ev.bind (Ev.bind (loop l.length 0 (by omega)) (Ev.now _)) ?_
  exact ev_pos (by omega) (Ev.now _)
theorem laden_ev (l : List Tk) (hl : l.length ≤ 8) (a b : Int) : ∃ s : Int × Int, Ev (fun k => impl_laden.f k a b l) s := by
  have loop : ∀ (d n : Nat) (a b : Int), n + d = l.length → ∃ s : Int × Int, Ev (fun k => impl_laden.l0 k l (l.length : Int) (n : Int) a b) s := by
    intro d
    induction d with
    | zero =>
      intro n a b hn
      refine ⟨(a, b), ev_succ ?_⟩
      simp only [impl_laden.l0]
      exact ev_neg (by omega) (Ev.now _)
    | succ d ih =>
      intro n a b hn
      have hw := w64_succ (n := n) (m := l.length) (by omega) (by omega)
      obtain ⟨s, h2⟩ := ih (n + 1) (wrap64 (a + ((rd_T60 l (n : Int)).f0))) (wrap64 (b + (wrap64 (((rd_T60 l (n : Int)).f0) * ((rd_T60 l (n : Int)).f1))))) (by omega)
      refine ⟨s, ev_succ ?_⟩
      simp only [impl_laden.l0, hw]
      exact ev_pos (by omega) (ev_pos (by omega) (ev_pos (by omega) h2))
  exact loop l.length 0 a b (by omega)

def sumF : List Tk → Int
  | [] => 0
  | t :: ts => t.f0 + sumF ts
theorem sum_drop {l : List Tk} {n : Nat} (h : n < l.length) : sumF (l.drop n) = (l.getD n z60).f0 + sumF (l.drop (n + 1)) := by
  rw [List.drop_eq_getElem_cons h, List.getD_eq_getElem?_getD, List.getElem?_eq_getElem h]
  rfl
theorem sum_bd : ∀ (l : List Tk), (∀ j : Nat, okT (l.getD j z60)) → 0 ≤ sumF l ∧ sumF l ≤ 10000 * l.length
  | [], _ => ⟨Int.le_refl _, Int.le_refl _⟩
  | t :: ts, h => by
    have h0 : okT t := h 0
    have := sum_bd ts (fun j => h (j + 1))
    have h1 := h0.1
    simp only [sumF, List.length_cons]
    omega
theorem sum_zero : ∀ (l : List Tk), (∀ j : Nat, okT (l.getD j z60)) → sumF l = 0 → ∀ j : Nat, (l.getD j z60).f0 = 0
  | [], _, _, _ => rfl
  | t :: ts, h, hs, j => by
    have h0 : okT t := h 0
    have h2 : ∀ j : Nat, okT (ts.getD j z60) := fun j => h (j + 1)
    have b := sum_bd ts h2
    have h1 := h0.1
    simp only [sumF] at hs
    cases j with
    | zero => show t.f0 = 0; omega
    | succ j => exact sum_zero ts h2 (by omega) j
theorem sum_ne : ∀ (l : List Tk), sumF l ≠ 0 → ∃ j, j < l.length ∧ (l.getD j z60).f0 ≠ 0
  | [], h => absurd rfl h
  | t :: ts, h => by
    by_cases c : t.f0 = 0
    · simp only [sumF, c, Int.zero_add] at h
      obtain ⟨j, h1, h2⟩ := sum_ne ts h
      exact ⟨j + 1, by simp only [List.length_cons]; omega, h2⟩
    · exact ⟨0, by simp, c⟩
theorem getD_set_self (l : List Tk) (n : Nat) (t : Tk) (h : n < l.length) : (l.set n t).getD n z60 = t := by
  rw [List.getD_eq_getElem?_getD, List.getElem?_set_self h]
  rfl
theorem set_back (l : List Tk) (n : Nat) (t : Tk) (h : n < l.length) : (l.set n t).set n (l.getD n z60) = l := by
  rw [List.set_set, List.getD_eq_getElem?_getD, List.getElem?_eq_getElem h]
  simp
theorem tok_set {l : List Tk} (h : TOk l) (n : Nat) {t : Tk} (ht : okT t) : TOk (l.set n t) := by
  refine ⟨by rw [List.length_set]; exact h.1, fun j => ?_⟩
  by_cases c : n = j
  · subst c
    by_cases hn : n < l.length
    · rw [getD_set_self l n t hn]; exact ht
    · rw [List.set_eq_of_length_le (by omega)]; exact h.2 n
  · rw [List.getD_eq_getElem?_getD, List.getElem?_set_ne c, ← List.getD_eq_getElem?_getD]
    exact h.2 j

theorem wrap_i64_eq (n : Int) : IntKind.i64.wrap n = wrap64 n := by
  rw [IntKind.wrap_i64, wrap64]
theorem and_255 (x : Int) : 0 ≤ Go.bits .and .i64 x 255 ∧ Go.bits .and .i64 x 255 ≤ 255 := by
  have h : (BitVec.ofInt 64 x &&& BitVec.ofInt 64 255).toNat ≤ 255 := by
    rw [BitVec.toNat_and]
    exact Nat.le_trans Nat.and_le_right (by decide)
  show 0 ≤ IntKind.i64.wrap ((BitVec.ofInt 64 x &&& BitVec.ofInt 64 255).toNat : Int) ∧ IntKind.i64.wrap ((BitVec.ofInt 64 x &&& BitVec.ofInt 64 255).toNat : Int) ≤ 255
  generalize (BitVec.ofInt 64 x &&& BitVec.ofInt 64 255).toNat = m at h
  rw [wrap_i64_eq, w64 (by omega) (by omega)]
  omega
theorem new_loop (l : List Int) (hl : l.length ≤ 1048576) : ∀ (d n : Nat) (s : Int), n + d = l.length → ∃ s', Ev (fun k => spec_l1New.l0 k l s (n : Int)) (l, 0, s') := by
  intro d
  induction d with
  | zero =>
    intro n s hn
    refine ⟨s, ev_succ ?_⟩
    simp only [spec_l1New.l0]
    exact ev_neg (by omega) (Ev.now _)
  | succ d ih =>
    intro n s hn
    by_cases h : (n : Int) < 4000
    · obtain ⟨s', e⟩ := ih (n + 1) (Go.bits .and .i64 (wrap64 ((wrap64 ((wrap64 (s * 131)) + (wrap64 (rd l (n : Int))))) + 7)) 1073741823) (by omega)
      refine ⟨s', ev_succ ?_⟩
      simp only [spec_l1New.l0]
      rw [w64_succ (m := l.length) (n := n) (by omega) (by omega)]
      exact ev_pos (by omega) (ev_pos h (ev_pos (by omega) e))
    · refine ⟨s, ev_succ ?_⟩
      simp only [spec_l1New.l0]
      exact ev_pos (by omega) (ev_neg h (Ev.now _))
theorem new_ev (l : List Int) (hl : l.length ≤ 1048576) : ∃ s, Ev (fun k => spec_l1New.f k l) (l, 0, s) := by
  unfold spec_l1New.f
  exact new_loop l hl l.length 0 _ (by omega)
def At_ (l : List Int) (pos : Int) : Prop := 0 ≤ pos ∧ pos ≤ l.length
theorem byte_eq {l : List Int} (hl : l.length ≤ 1048576) {pos : Int} (hp : At_ l pos) (s : Int) : ∃ b pos' s', spec_l1Byte.f l pos s = some (b, pos', s') ∧ 0 ≤ b ∧ b ≤ 255 ∧ At_ l pos' := by
  obtain ⟨h0, h1⟩ := hp
  unfold spec_l1Byte.f
  by_cases h : pos < (l.length : Int)
  · rw [if_pos h, if_pos h0]
    refine ⟨_, _, _, rfl, (and_255 _).1, (and_255 _).2, ?_⟩
    rw [w64 (by omega) (by omega)]
    exact ⟨by omega, by omega⟩
  · rw [if_neg h]
    exact ⟨_, _, _, rfl, (and_255 _).1, (and_255 _).2, h0, h1⟩
theorem tmod_bd {x a : Int} (h0 : 0 ≤ x) (ha : 1 ≤ a) : 0 ≤ Int.tmod x a ∧ Int.tmod x a < a := by
  rw [Int.tmod_eq_emod_of_nonneg h0]
  exact ⟨Int.emod_nonneg _ (by omega), Int.emod_lt_of_pos _ (by omega)⟩
theorem below_eq {l : List Int} (hl : l.length ≤ 1048576) {pos : Int} (hp : At_ l pos) (s : Int) {a : Int} (ha : 1 ≤ a) : ∃ v pos' s', spec_l1Below.f l pos s a = some (v, pos', s') ∧ 0 ≤ v ∧ v < a ∧ At_ l pos' := by
  unfold spec_l1Below.f
  rw [if_neg (by omega)]
  obtain ⟨b0, p0, s0, e0, l0, u0, q0⟩ := byte_eq hl hp s
  obtain ⟨b1, p1, s1, e1, l1, u1, q1⟩ := byte_eq hl q0 s0
  obtain ⟨b2, p2, s2, e2, l2, u2, q2⟩ := byte_eq hl q1 s1
  obtain ⟨b3, p3, s3, e3, l3, u3, q3⟩ := byte_eq hl q2 s2
  by_cases h : a ≤ 256
  · rw [if_pos h, e0]
    simp only [Option.bind_some]
    rw [if_neg (by omega)]
    obtain ⟨t0, t1⟩ := tmod_bd l0 ha
    exact ⟨_, _, _, rfl, t0, t1, q0⟩
  · rw [if_neg h, e0]
    simp only [Option.bind_some, e1, e2, e3]
    rw [if_neg (by omega)]
    have w0 : wrap64 (b0 * 16777216) = b0 * 16777216 := w64 (by omega) (by omega)
    have w1 : wrap64 (b1 * 65536) = b1 * 65536 := w64 (by omega) (by omega)
    have w2 : wrap64 (b2 * 256) = b2 * 256 := w64 (by omega) (by omega)
    have w3 : wrap64 (b0 * 16777216 + b1 * 65536) = b0 * 16777216 + b1 * 65536 := w64 (by omega) (by omega)
    have w4 : wrap64 (b0 * 16777216 + b1 * 65536 + b2 * 256) = b0 * 16777216 + b1 * 65536 + b2 * 256 := w64 (by omega) (by omega)
    have w5 : wrap64 (b0 * 16777216 + b1 * 65536 + b2 * 256 + b3) = b0 * 16777216 + b1 * 65536 + b2 * 256 + b3 := w64 (by omega) (by omega)
    rw [w0, w1, w2, w3, w4, w5]
    obtain ⟨t0, t1⟩ := tmod_bd (x := b0 * 16777216 + b1 * 65536 + b2 * 256 + b3) (by omega) ha
    exact ⟨_, _, _, rfl, t0, t1, q3⟩

theorem at_ev {l : List Int} (h : ∀ x ∈ l, 0 ≤ x ∧ x ≤ 255) (hl : l.length ≤ 1048576) (i : Int) (h0 : 0 ≤ i) (h1 : i ≤ 1000000) : ∃ v, laws_at.f l i = some v ∧ 0 ≤ v ∧ v ≤ 255 := by
  unfold laws_at.f
  by_cases hi : i < (l.length : Int)
  · rw [if_pos hi, if_pos h0]
    have := u8_bounds h i.toNat
    refine ⟨_, rfl, ?_⟩
    unfold rd
    rw [w64 (by omega) (by omega)]
    exact this
  · rw [if_neg hi]
    refine ⟨_, rfl, ?_⟩
    rw [w64 (x := i * 7) (by omega) (by omega), w64 (by omega) (by omega), Int.tmod_eq_emod_of_nonneg (by omega)]
    omega

theorem big_ev {l : List Int} (h : l.length ≤ 1048576) : laws_big.f l = some false := by
  unfold laws_big.f
  rw [decide_eq_false (by omega)]
theorem big_big {l : List Int} (h : ¬ l.length ≤ 1048576) : laws_big.f l = some true := by
  unfold laws_big.f
  rw [decide_eq_true (by omega)]

section
variable {M F A : List Int} {m0 m1 step : Int}
def Ins (M F A : List Int) (m0 m1 : Int) (now : List Tk) : Prop := ∃ s : Int × Int, Ev (fun k => impl_laden.f k m0 m1 now) s ∧ Ev (fun k => impl_inside.f k M F A s.1 s.2) true
def after (now : List Tk) (n : Nat) (m : Int) : List Tk := now.set n ⟨(now.getD n z60).f0 - m, (now.getD n z60).f1⟩
/-- The burns lead from these tanks to those, each from within. -/
def Plan (M F A : List Int) (m0 m1 step : Int) : List Tk → List Bn → List Tk → Prop
  | now, [], fin => fin = now
  | now, b :: bs, fin => ∃ n : Nat, b.f0 = n ∧ n < now.length ∧ 1 ≤ b.f1 ∧ b.f1 ≤ step ∧ b.f1 ≤ (now.getD n z60).f0 ∧ Ins M F A m0 m1 (after now n b.f1) ∧ Plan M F A m0 m1 step (after now n b.f1) bs fin
theorem after_ok {now : List Tk} (h : TOk now) {n : Nat} {m : Int} (h1 : 0 ≤ m) (h2 : m ≤ (now.getD n z60).f0) : TOk (after now n m) := by
  have ho := h.2 n
  have h3 := ho.1
  exact tok_set h n ⟨⟨by show 0 ≤ (now.getD n z60).f0 - m; omega, by show (now.getD n z60).f0 - m ≤ 10000; omega⟩, ho.2⟩
theorem after_len (now : List Tk) (n : Nat) (m : Int) : (after now n m).length = now.length := List.length_set
theorem sum_set : ∀ (l : List Tk) (n : Nat) (m : Int), n < l.length → sumF (after l n m) = sumF l - m
  | [], n, m, h => absurd h (Nat.not_lt_zero _)
  | t :: ts, 0, m, h => by
    show (t.f0 - m) + sumF ts = t.f0 + sumF ts - m
    omega
  | t :: ts, n + 1, m, h => by
    have := sum_set ts n m (Nat.lt_of_succ_lt_succ h)
    show t.f0 + sumF (after ts n m) = t.f0 + sumF ts - m
    omega
def many : List Bn → Int
  | [] => 0
  | b :: bs => b.f1 + many bs
theorem plan_sum : ∀ {bs : List Bn} {now fin : List Tk}, Plan M F A m0 m1 step now bs fin → sumF now - sumF fin = many bs ∧ fin.length = now.length ∧ 0 ≤ many bs
  | [], now, fin, h => by
    have : fin = now := h
    subst this
    exact ⟨by simp only [many]; omega, rfl, Int.le_refl _⟩
  | b :: bs, now, fin, h => by
    obtain ⟨n, h1, h2, h3, h4, h5, h6, h7⟩ := h
    obtain ⟨a, c, e⟩ := plan_sum h7
    rw [sum_set now n b.f1 h2] at a
    rw [after_len] at c
    simp only [many]
    exact ⟨by omega, c, by omega⟩
theorem plan_ok : ∀ {bs : List Bn} {now fin : List Tk}, Plan M F A m0 m1 step now bs fin → TOk now → TOk fin
  | [], now, fin, h, ht => by
    have : fin = now := h
    subst this
    exact ht
  | b :: bs, now, fin, h, ht => by
    obtain ⟨n, h1, h2, h3, h4, h5, h6, h7⟩ := h
    exact plan_ok h7 (after_ok ht (by omega) h5)
theorem plan_all : ∀ {bs : List Bn} {now fin : List Tk}, Plan M F A m0 m1 step now bs fin → ∀ b ∈ bs, 1 ≤ b.f1 ∧ b.f1 ≤ step
  | [], now, fin, h => fun b hb => by cases hb
  | b :: bs, now, fin, h => fun x hx => by
    obtain ⟨n, h1, h2, h3, h4, h5, h6, h7⟩ := h
    rcases List.mem_cons.1 hx with e | e
    · rw [e]; exact ⟨h3, h4⟩
    · exact plan_all h7 x e
theorem drop_cons {L : List Bn} {n : Nat} (h : n < L.length) : L.drop n = L.getD n z62 :: L.drop (n + 1) := by
  rw [List.drop_eq_getElem_cons h, List.getD_eq_getElem?_getD, List.getElem?_eq_getElem h]
  rfl
theorem burn_run (L : List Bn) (hL : L.length ≤ 60) (hs : step ≤ 10000) : ∀ (d n : Nat) (now fin : List Tk), n + d = L.length → TOk now → Plan M F A m0 m1 step now (L.drop n) fin → Ev (fun k => impl_Burnt.l0 k now L (L.length : Int) (n : Int)) (fin, -1) := by
  intro d
  induction d with
  | zero =>
    intro n now fin hn ht hp
    rw [List.drop_eq_nil_of_le (by omega)] at hp
    have : fin = now := hp
    subst this
    refine ev_succ ?_
    simp only [impl_Burnt.l0]
    exact ev_neg (by omega) (Ev.now _)
  | succ d ih =>
    intro n now fin hn ht hp
    have hw := w64_succ (n := n) (m := L.length) (by omega) (by omega)
    have h8 := ht.1
    rw [drop_cons (by omega)] at hp
    obtain ⟨j, h1, h2, h3, h4, h5, h6, h7⟩ := hp
    have ho := (ht.2 j).1
    have hv : wrap64 ((now.length : Int) - 1) = (now.length : Int) - 1 := w64 (by omega) (by omega)
    generalize hb : L.getD n z62 = b at *
    have q1 : 0 ≤ (j : Int) ∧ (j : Int) ≤ (now.length : Int) - 1 := by omega
    have q2 : 1 ≤ b.f1 ∧ b.f1 ≤ 10000 := by omega
    have q3 : wrap64 ((now.getD j z60).f0 - b.f1) = (now.getD j z60).f0 - b.f1 := w64 (by omega) (by omega)
    refine ev_succ ?_
    simp only [impl_Burnt.l0, impl_in_eq, rdBn, rdTk, hb, h1, hv, hw, decide_eq_true q1, decide_eq_true q2, q3, Int.toNat_natCast, Option.bind_some]
    exact ev_pos (by omega) (ev_pos (by omega) (ev_pos (by omega) (ev_pos (by trivial) (ev_pos (by trivial) (ev_pos (by omega) (ev_pos (by omega) (ev_neg (by omega) (ih (n + 1) _ fin (by omega) (after_ok ht (by omega) h5) h7))))))))
theorem burnt_plan {L : List Bn} (hL : L.length ≤ 60) (hs : step ≤ 10000) {tanks fin : List Tk} (ht : TOk tanks) (hp : Plan M F A m0 m1 step tanks L fin) : Ev (fun k => impl_Burnt.f k tanks L) (fin, -1) := by
  have h8 := ht.1
  unfold impl_Burnt.f
  refine Ev.bind (tanks_good ht) (ev_pos (by trivial) (ev_succ ?_))
  rw [decide_eq_false (show ¬ (L.length : Int) > 60 by omega)]
  simp only [impl_Burnt.j0, impl_FuelTank_41.f, Option.bind_some, List.nil_append, List.length_nil]
  rw [if_pos (by omega)]
  exact ev_neg (by decide) (burn_run L hL hs L.length 0 tanks fin (by omega) ht (by rw [List.drop_zero]; exact hp))
theorem burnt_bad {tanks : List Tk} (ht : TOk tanks) (h1 : 1 ≤ tanks.length) : Ev (fun k => impl_Burnt.f k tanks [⟨(tanks.length : Int), 1⟩]) (tanks, 0) := by
  have h8 := ht.1
  generalize hL : [(⟨(tanks.length : Int), 1⟩ : Bn)] = L
  have hl : L.length = 1 := by rw [← hL]; rfl
  have hr : (rd_T62 L 0).f0 = (tanks.length : Int) := by rw [← hL]; rfl
  unfold impl_Burnt.f
  refine Ev.bind (tanks_good ht) (ev_pos (by trivial) (ev_succ ?_))
  rw [decide_eq_false (show ¬ (L.length : Int) > 60 by omega)]
  simp only [impl_Burnt.j0, impl_FuelTank_41.f, Option.bind_some, List.nil_append, List.length_nil]
  rw [if_pos (by omega)]
  refine ev_neg (by decide) (ev_succ ?_)
  have hv : wrap64 ((tanks.length : Int) - 1) = (tanks.length : Int) - 1 := w64 (by omega) (by omega)
  have hq : ¬ (0 ≤ (tanks.length : Int) ∧ (tanks.length : Int) ≤ (tanks.length : Int) - 1) := by omega
  simp only [impl_Burnt.l0, impl_in_eq, hr, hv, decide_eq_false hq, Option.bind_some]
  exact ev_pos (by omega) (ev_pos (by omega) (ev_pos (by omega) (ev_neg (by decide) (Ev.now _))))
theorem leave_run (L : List Bn) (hL : L.length ≤ 60) (hs : step ≤ 10000) : ∀ (d n : Nat) (now fin : List Tk), n + d = L.length → TOk now → Plan M F A m0 m1 step now (L.drop n) fin → Ev (fun k => impl_Leaves.l0 k L now L (L.length : Int) (n : Int) M F A m0 m1) (L.length : Int) := by
  intro d
  induction d with
  | zero =>
    intro n now fin hn ht hp
    refine ev_succ ?_
    simp only [impl_Leaves.l0]
    exact ev_neg (by omega) (Ev.now _)
  | succ d ih =>
    intro n now fin hn ht hp
    have hw := w64_succ (n := n) (m := L.length) (by omega) (by omega)
    have h8 := ht.1
    rw [drop_cons (by omega)] at hp
    obtain ⟨j, h1, h2, h3, h4, h5, ⟨s, i1, i2⟩, h7⟩ := hp
    have ho := (ht.2 j).1
    generalize hb : L.getD n z62 = b at *
    have q3 : wrap64 ((now.getD j z60).f0 - b.f1) = (now.getD j z60).f0 - b.f1 := w64 (by omega) (by omega)
    refine ev_succ ?_
    simp only [impl_Leaves.l0, rdBn, rdTk, hb, h1, hw, q3, Int.toNat_natCast, Option.bind_some]
    exact ev_pos (by omega) (ev_pos (by omega) (ev_pos (by omega) (ev_pos (by omega) (ev_pos (by omega) (Ev.bind i1 (Ev.bind i2 (ev_pos (by trivial) (ih (n + 1) _ fin (by omega) (after_ok ht (by omega) h5) h7))))))))
/-- How the telling of a plan ends. -/
def Told (M F A : List Int) (m0 m1 step : Int) (now : List Tk) (out : List Bn) (R : List Bn × Bool) : Prop := ∃ bs fin, R.1 = out ++ bs ∧ R.1.length ≤ 60 ∧ Plan M F A m0 m1 step now bs fin ∧ (R.2 = true ↔ sumF fin = 0)
theorem told_end {now : List Tk} {out : List Bn} {c : Bool} (ho : out.length ≤ 60) (hc : c = true ↔ sumF now = 0) : Told M F A m0 m1 step now out (out, c) := ⟨[], now, by simp, ho, rfl, hc⟩
theorem empty_loop {now : List Tk} {out : List Bn} (h8 : now.length ≤ 8) (hs : 1 ≤ step) (hz : ∀ j : Nat, (now.getD j z60).f0 = 0) : ∀ (d n : Nat), n + d = now.length → Ev (fun k => impl_Order.l1 k step now out false false (now.length : Int) (n : Int) M F A m0 m1) (out, true) := by
  intro d
  induction d with
  | zero =>
    intro n hn
    refine ev_succ ?_
    simp only [impl_Order.l1]
    exact ev_neg (by omega) (ev_neg (by decide) (Ev.now _))
  | succ d ih =>
    intro n hn
    have hw := w64_succ (n := n) (m := now.length) (by omega) (by omega)
    refine ev_succ ?_
    simp only [impl_Order.l1, rdTk, hw, hz]
    refine ev_pos (by omega) (ev_pos (by omega) (ev_pos (by omega) (ev_pos ?_ (ih (n + 1) (by omega)))))
    unfold mn
    rw [if_pos (by omega)]
theorem full_loop {now : List Tk} {out : List Bn} (ht : TOk now) (hs : 1 ≤ step) (hf : out.length = 60) : ∀ (d n : Nat), n + d = now.length → (∃ j, n ≤ j ∧ j < now.length ∧ (now.getD j z60).f0 ≠ 0) → Ev (fun k => impl_Order.l1 k step now out false false (now.length : Int) (n : Int) M F A m0 m1) (out, false) := by
  have h8 := ht.1
  intro d
  induction d with
  | zero =>
    intro n hn he
    obtain ⟨j, a, b, c⟩ := he
    omega
  | succ d ih =>
    intro n hn he
    have hw := w64_succ (n := n) (m := now.length) (by omega) (by omega)
    have hb := (ht.2 n).1
    refine ev_succ ?_
    simp only [impl_Order.l1, rdTk, hw]
    refine ev_pos (by omega) (ev_pos (by omega) (ev_pos (by omega) ?_))
    by_cases c : (now.getD n z60).f0 = 0
    · refine ev_pos (by unfold mn; rw [c, if_pos (by omega)]) (ih (n + 1) (by omega) ?_)
      obtain ⟨j, a, b, e⟩ := he
      refine ⟨j, ?_, b, e⟩
      rcases Nat.lt_or_ge n j with q | q
      · exact q
      · have : j = n := by omega
        subst this; exact absurd c e
    · exact ev_neg (by unfold mn; split <;> omega) (ev_pos (by omega) (ev_neg (by decide) (Ev.now _)))
theorem tries (hP : EnvP M F A) (hs : 1 ≤ step) (hs2 : step ≤ 10000) {now : List Tk} {out : List Bn} (ht : TOk now) (ho : out.length < 60) (hne : sumF now ≠ 0)
    (IH : ∀ (now' : List Tk) (out' : List Bn), TOk now' → out'.length = out.length + 1 → ∃ R : List Bn × Bool, Ev (fun k => impl_Order.l0 k step now' out' M F A m0 m1) R ∧ Told M F A m0 m1 step now' out' R) :
    ∀ (d n : Nat) (lf : Bool), n + d = now.length → (lf = true ∨ ∃ j, n ≤ j ∧ j < now.length ∧ (now.getD j z60).f0 ≠ 0) → ∃ R : List Bn × Bool, Ev (fun k => impl_Order.l1 k step now out false lf (now.length : Int) (n : Int) M F A m0 m1) R ∧ Told M F A m0 m1 step now out R := by
  have h8 := ht.1
  intro d
  induction d with
  | zero =>
    intro n lf hn he
    have hlf : lf = true := by
      rcases he with h | ⟨j, a, b, c⟩
      · exact h
      · omega
    subst hlf
    refine ⟨(out, false), ev_succ ?_, told_end (by omega) ⟨fun h => (by cases h), fun h => absurd h hne⟩⟩
    simp only [impl_Order.l1]
    exact ev_neg (by omega) (ev_neg (by decide) (Ev.now _))
  | succ d ih =>
    intro n lf hn he
    have hw := w64_succ (n := n) (m := now.length) (by omega) (by omega)
    have hok := ht.2 n
    have hb := hok.1
    generalize hg : now.getD n z60 = t at *
    obtain ⟨mv, hmv⟩ : ∃ m, m = mn step t.f0 := ⟨_, rfl⟩
    have hmb : 0 ≤ mv ∧ mv ≤ t.f0 ∧ mv ≤ 10000 ∧ mv ≤ step ∧ (mv = 0 ↔ t.f0 = 0) := by
      rw [hmv]; unfold mn; split <;> omega
    by_cases c : t.f0 = 0
    · have hm0 := hmb.2.2.2.2.2 c
      obtain ⟨R, h2, h0⟩ := ih (n + 1) lf (by omega) (by
        rcases he with h | ⟨j, a, b, e⟩
        · exact .inl h
        · refine .inr ⟨j, ?_, b, e⟩
          rcases Nat.lt_or_ge n j with q | q
          · exact q
          · have : j = n := by omega
            subst this; rw [hg] at e; exact absurd c e)
      refine ⟨R, ev_succ ?_, h0⟩
      simp only [impl_Order.l1, rdTk, hg, ← hmv, hw]
      exact ev_pos (by omega) (ev_pos (by omega) (ev_pos (by omega) (ev_pos hm0 h2)))
    · have hm0 : ¬ mv = 0 := fun h => c (hmb.2.2.2.2.1 h)
      have e1 : wrap64 (t.f0 - mv) = t.f0 - mv := w64 (by omega) (by omega)
      have e2 : wrap64 (t.f0 - mv + mv) = t.f0 := by rw [w64 (by omega) (by omega)]; omega
      have ht1 : TOk (now.set n ⟨t.f0 - mv, t.f1⟩) := tok_set ht n ⟨⟨by show 0 ≤ t.f0 - mv; omega, by show t.f0 - mv ≤ 10000; omega⟩, hok.2⟩
      have hg1 : (now.set n (⟨t.f0 - mv, t.f1⟩ : Tk)).getD n z60 = ⟨t.f0 - mv, t.f1⟩ := getD_set_self _ _ _ (by omega)
      have hback : (now.set n (⟨t.f0 - mv, t.f1⟩ : Tk)).set n ⟨t.f0, t.f1⟩ = now := by
        have := set_back now n ⟨t.f0 - mv, t.f1⟩ (by omega)
        rwa [hg] at this
      have haf : after now n mv = now.set n ⟨t.f0 - mv, t.f1⟩ := by unfold after; rw [hg]
      obtain ⟨s, w2⟩ := laden_ev (now.set n ⟨t.f0 - mv, t.f1⟩) ht1.1 m0 m1
      obtain ⟨b, i2⟩ := inside_ev hP s.1 s.2
      cases b with
      | true =>
        obtain ⟨R, h2, ⟨bs, fin, p1, p2, p3, p4⟩⟩ := IH (now.set n ⟨t.f0 - mv, t.f1⟩) (out ++ [⟨(n : Int), mv⟩]) ht1 (by simp)
        refine ⟨R, ev_succ ?_, ⟨⟨(n : Int), mv⟩ :: bs, fin, by rw [p1, List.append_assoc]; rfl, p2, ⟨n, rfl, by omega, by show 1 ≤ mv; omega, hmb.2.2.2.1, by rw [hg]; exact hmb.2.1, ?_, ?_⟩, p4⟩⟩
        · simp only [impl_Order.l1, rdTk, hg, ← hmv, hw, e1, Int.toNat_natCast, Option.bind_some]
          exact ev_pos (by omega) (ev_pos (by omega) (ev_pos (by omega) (ev_neg hm0 (ev_neg (by omega) (Ev.bind w2 (Ev.bind i2 (ev_pos (by trivial) (ev_pos (by omega) h2))))))))
        · show Ins M F A m0 m1 (after now n mv)
          rw [haf]; exact ⟨s, w2, i2⟩
        · show Plan M F A m0 m1 step (after now n mv) bs fin
          rw [haf]; exact p3
      | false =>
        obtain ⟨R, h2, h0⟩ := ih (n + 1) true (by omega) (.inl rfl)
        refine ⟨R, ev_succ ?_, h0⟩
        simp only [impl_Order.l1, rdTk, hg, hg1, ← hmv, hw, e1, e2, hback, Int.toNat_natCast, Option.bind_some]
        exact ev_pos (by omega) (ev_pos (by omega) (ev_pos (by omega) (ev_neg hm0 (ev_neg (by omega) (Ev.bind w2 (Ev.bind i2 (ev_neg (by decide) h2)))))))
theorem order_loop (hP : EnvP M F A) (hs : 1 ≤ step) (hs2 : step ≤ 10000) : ∀ (e : Nat) (now : List Tk) (out : List Bn), TOk now → out.length + e = 60 → ∃ R : List Bn × Bool, Ev (fun k => impl_Order.l0 k step now out M F A m0 m1) R ∧ Told M F A m0 m1 step now out R := by
  intro e
  induction e with
  | zero =>
    intro now out ht ho
    by_cases c : sumF now = 0
    · refine ⟨(out, true), ev_succ ?_, told_end (by omega) ⟨fun _ => c, fun _ => rfl⟩⟩
      simp only [impl_Order.l0]
      exact empty_loop ht.1 hs (sum_zero now ht.2 c) now.length 0 (by omega)
    · obtain ⟨j, j1, j2⟩ := sum_ne now c
      refine ⟨(out, false), ev_succ ?_, told_end (by omega) ⟨fun h => (by cases h), fun h => absurd h c⟩⟩
      simp only [impl_Order.l0]
      exact full_loop ht hs (by omega) now.length 0 (by omega) ⟨j, Nat.zero_le _, j1, j2⟩
  | succ e ih =>
    intro now out ht ho
    by_cases c : sumF now = 0
    · refine ⟨(out, true), ev_succ ?_, told_end (by omega) ⟨fun _ => c, fun _ => rfl⟩⟩
      simp only [impl_Order.l0]
      exact empty_loop ht.1 hs (sum_zero now ht.2 c) now.length 0 (by omega)
    · obtain ⟨j, j1, j2⟩ := sum_ne now c
      obtain ⟨R, h2, h0⟩ := tries (now := now) (out := out) hP hs hs2 ht (by omega) c (fun now' out' a b => ih now' out' a (by omega)) now.length 0 false (by omega) (.inr ⟨j, Nat.zero_le _, j1, j2⟩)
      refine ⟨R, ev_succ ?_, h0⟩
      simp only [impl_Order.l0]
      exact h2
theorem lad_ev (hM : M.length + F.length + A.length ≤ 1048576) {l : List Tk} (ht : TOk l) : ∃ c : Bool, Ev (fun k => impl_ladenOk.f k M F A m0 m1 l) c ∧ (c = true → EnvP M F A) := by
  obtain ⟨e, e2, ie⟩ := impl_env_ev M F A hM
  unfold impl_ladenOk.f
  simp only [impl_in_eq, Option.bind_some]
  cases e with
  | false => exact ⟨false, Ev.bind e2 (ev_neg (by decide) (Ev.now _)), fun h => by cases h⟩
  | true =>
    by_cases h1 : 0 ≤ m0 ∧ m0 ≤ 400000
    · by_cases h2 : -100000000 ≤ m1 ∧ m1 ≤ 100000000
      · exact ⟨true, Ev.bind e2 (ev_pos (by trivial) (ev_pos (decide_eq_true h1) (ev_pos (decide_eq_true h2) (Ev.bind (tanks_good ht) (Ev.now _))))), fun _ => ie.1 rfl⟩
      · exact ⟨false, Ev.bind e2 (ev_pos (by trivial) (ev_pos (decide_eq_true h1) (ev_neg (by simpa using h2) (Ev.now _)))), fun h => by cases h⟩
    · exact ⟨false, Ev.bind e2 (ev_pos (by trivial) (ev_neg (by simpa using h1) (Ev.now _))), fun h => by cases h⟩
theorem order_all (hM : M.length + F.length + A.length ≤ 1048576) {l : List Tk} (ht : TOk l) (hs : 1 ≤ step) (hs2 : step ≤ 10000) : ∃ (R : List Bn × Bool) (fin : List Tk) (v : Int), Ev (fun k => impl_Order.f k M F A m0 m1 l step) R ∧ R.1.length ≤ 60 ∧ Plan M F A m0 m1 step l R.1 fin ∧
    Ev (fun k => impl_Leaves.f k M F A m0 m1 l R.1) v ∧ (R.2 = true ↔ sumF fin = 0 ∧ v = (R.1.length : Int)) ∧ (0 < R.1.length → v = (R.1.length : Int)) := by
  have h8 := ht.1
  have no2 : Ev (fun k => impl_Order.j0 k l step true M F A m0 m1) (([] : List Bn), false) := by
    refine ev_succ ?_
    simp only [impl_Order.j0]
    exact ev_pos (by trivial) (Ev.now _)
  obtain ⟨c, c1, c2⟩ := lad_ev (m0 := m0) (m1 := m1) hM ht
  have b0 : Ev (fun k => impl_Burnt.f k l []) (l, -1) := burnt_plan (M := M) (F := F) (A := A) (m0 := m0) (m1 := m1) (by simp) hs2 ht rfl
  have bad : ∀ v : Int, v < 0 → Ev (fun k => impl_Leaves.f k M F A m0 m1 l []) v → Ev (fun k => impl_Order.f k M F A m0 m1 l step) (([] : List Bn), false) → ∃ (R : List Bn × Bool) (fin : List Tk) (v : Int), Ev (fun k => impl_Order.f k M F A m0 m1 l step) R ∧ R.1.length ≤ 60 ∧ Plan M F A m0 m1 step l R.1 fin ∧
      Ev (fun k => impl_Leaves.f k M F A m0 m1 l R.1) v ∧ (R.2 = true ↔ sumF fin = 0 ∧ v = (R.1.length : Int)) ∧ (0 < R.1.length → v = (R.1.length : Int)) := by
    intro v hv hl ho
    refine ⟨([], false), l, v, ho, Nat.zero_le _, rfl, hl, ⟨fun h => (by cases h), fun h => ?_⟩, fun h => absurd h (Nat.lt_irrefl 0)⟩
    have h2 : v = 0 := h.2
    omega
  have st : decide (1 ≤ step ∧ step ≤ 10000) = true := decide_eq_true ⟨hs, hs2⟩
  cases c with
  | false =>
    refine bad (-2) (by decide) ?_ ?_
    · unfold impl_Leaves.f
      refine Ev.bind b0 (ev_pos (by trivial) (Ev.bind c1 (ev_succ ?_)))
      simp only [impl_Leaves.j0]
      exact ev_pos (by trivial) (Ev.now _)
    · unfold impl_Order.f
      exact Ev.bind c1 (ev_neg (by decide) no2)
  | true =>
    have hP := c2 rfl
    obtain ⟨s, w2⟩ := laden_ev l h8 m0 m1
    obtain ⟨b, i2⟩ := inside_ev hP s.1 s.2
    cases b with
    | false =>
      refine bad (-1) (by decide) ?_ ?_
      · unfold impl_Leaves.f
        refine Ev.bind b0 (ev_pos (by trivial) (Ev.bind c1 (ev_succ ?_)))
        simp only [impl_Leaves.j0]
        exact ev_neg (by decide) (Ev.bind w2 (Ev.bind i2 (ev_neg (by decide) (Ev.now _))))
      · unfold impl_Order.f
        simp only [impl_in_eq, st, Option.bind_some]
        exact Ev.bind c1 (ev_pos (by trivial) (ev_pos (by trivial) (Ev.bind w2 (Ev.bind i2 no2))))
    | true =>
      obtain ⟨⟨P, ok⟩, h2, ⟨bs, fin, p1, p2, p3, p4⟩⟩ := order_loop (m0 := m0) (m1 := m1) hP hs hs2 60 l [] ht rfl
      have p1' : P = bs := p1
      subst p1'
      have p2' : P.length ≤ 60 := p2
      have lv : Ev (fun k => impl_Leaves.f k M F A m0 m1 l P) (P.length : Int) := by
        unfold impl_Leaves.f
        refine Ev.bind (burnt_plan p2' hs2 ht p3) (ev_pos (by trivial) (Ev.bind c1 (ev_succ ?_)))
        simp only [impl_Leaves.j0, impl_FuelTank_41.f, Option.bind_some, List.nil_append, List.length_nil]
        rw [if_pos (by omega)]
        exact ev_neg (by decide) (Ev.bind w2 (Ev.bind i2 (ev_pos (by trivial) (leave_run P p2' hs2 P.length 0 l fin (by omega) ht (by rw [List.drop_zero]; exact p3)))))
      refine ⟨(P, ok), fin, (P.length : Int), ?_, p2, p3, lv, ⟨fun h => ⟨p4.1 h, rfl⟩, fun h => p4.2 h.1⟩, fun _ => rfl⟩
      unfold impl_Order.f
      simp only [impl_in_eq, st, Option.bind_some]
      refine Ev.bind c1 (ev_pos (by trivial) (ev_pos (by trivial) (Ev.bind w2 (Ev.bind i2 (ev_succ ?_)))))
      simp only [impl_Order.j0, impl_FuelTank_41.f, Option.bind_some, List.nil_append, List.length_nil]
      rw [if_pos (by omega)]
      exact ev_neg (by decide) h2
end
/-! the drawn tanks -/
theorem tok_app {l : List Tk} (h : TOk l) (h2 : l.length < 8) {t : Tk} (ht : okT t) : TOk (l ++ [t]) := by
  refine ⟨by simp only [List.length_append, List.length_singleton]; omega, fun j => ?_⟩
  rw [List.getD_eq_getElem?_getD]
  rcases Nat.lt_trichotomy j l.length with c | c | c
  · rw [List.getElem?_append_left c, ← List.getD_eq_getElem?_getD]; exact h.2 j
  · subst c; simp only [List.getElem?_concat_length, Option.getD_some]; exact ht
  · rw [List.getElem?_eq_none (by simp; omega)]; exact ⟨⟨by decide, by decide⟩, by decide, by decide⟩
theorem fuel_loop {l : List Int} (hl : l.length ≤ 1048576) (M F A : List Int) : ∀ (d : Nat) (o : List Tk) (pos s : Int), o.length + d ≤ 8 → At_ l pos → TOk o → ∃ (m0 m1 : Int) (o' : List Tk), Ev (fun k => spec_DrawFuel.l0 k o (d : Int) l pos s M F A) (M, F, A, m0, m1, o') ∧ TOk o' ∧ o.length + d ≤ o'.length := by
  intro d
  induction d with
  | zero =>
    intro o pos s hd hp ho
    obtain ⟨v, p1, q1, e1, _, _, h1⟩ := below_eq hl hp s (a := 200) (by decide)
    obtain ⟨u, p2, q2, e2, _, _, h2⟩ := below_eq hl h1 q1 (a := 11) (by decide)
    refine ⟨wrap64 (50 + v), wrap64 ((wrap64 (50 + v)) * (wrap64 (u - 5))), o, ev_succ ?_, ho, by omega⟩
    simp only [spec_DrawFuel.l0, e1, e2, Option.bind_some]
    exact ev_neg (by omega) (Ev.now _)
  | succ d ih =>
    intro o pos s hd hp ho
    obtain ⟨v, p1, q1, e1, v0, v1, h1⟩ := below_eq hl hp s (a := 60) (by decide)
    obtain ⟨u, p2, q2, e2, u0, u1, h2⟩ := below_eq hl h1 q1 (a := 61) (by decide)
    have w1 : wrap64 (u - 30) = u - 30 := w64 (by omega) (by omega)
    obtain ⟨m0, m1, o', a, b, c⟩ := ih (o ++ [⟨v, u - 30⟩]) p2 q2 (by simp only [List.length_append, List.length_singleton]; omega) h2 (tok_app ho (by omega) ⟨⟨v0, by show v ≤ 10000; omega⟩, by show -1000 ≤ u - 30; omega, by show u - 30 ≤ 1000; omega⟩)
    refine ⟨m0, m1, o', ev_succ ?_, b, by simp only [List.length_append, List.length_singleton] at c; omega⟩
    simp only [spec_DrawFuel.l0, e1, e2, w1, Option.bind_some]
    rw [show wrap64 (((d + 1 : Nat) : Int) - 1) = (d : Int) by rw [w64 (by omega) (by omega)]; omega]
    exact ev_pos (by omega) (ev_pos (by omega) a)
theorem fuel_ev {l : List Int} (hl : l.length ≤ 1048576) : ∃ (M F A : List Int) (m0 m1 : Int) (o : List Tk), Ev (fun k => spec_DrawFuel.f k l) (M, F, A, m0, m1, o) ∧ M.length + F.length + A.length ≤ 1048576 ∧ TOk o ∧ 1 ≤ o.length := by
  obtain ⟨s, hs⟩ := new_ev l hl
  obtain ⟨a, p1, q1, e1, _, _, h1⟩ := below_eq hl (pos := 0) ⟨by omega, by omega⟩ s (a := 300) (by decide)
  obtain ⟨b, p2, q2, e2, _, _, h2⟩ := below_eq hl h1 q1 (a := 20) (by decide)
  obtain ⟨c, p3, q3, e3, _, _, h3⟩ := below_eq hl h2 q2 (a := 20) (by decide)
  obtain ⟨v, p4, q4, e4, v0, v1, h4⟩ := below_eq hl h3 q3 (a := 4) (by decide)
  have w1 : wrap64 (1 + v) = ((v.toNat + 1 : Nat) : Int) := by rw [w64 (by omega) (by omega)]; omega
  obtain ⟨m0, m1, o, r1, r2, r3⟩ := fuel_loop hl [1, wrap64 (400 + a), 2000] [-20, wrap64 (-10 - b), -15] [20, wrap64 (5 + c), 18] (v.toNat + 1) [] p4 q4 (by simp only [List.length_nil]; omega) h4 ⟨by simp, fun j => by rw [List.getD_eq_getElem?_getD, List.getElem?_nil]; exact ⟨⟨by decide, by decide⟩, by decide, by decide⟩⟩
  refine ⟨[1, wrap64 (400 + a), 2000], [-20, wrap64 (-10 - b), -15], [20, wrap64 (5 + c), 18], m0, m1, o, ?_, by simp, r2, by simp only [List.length_nil] at r3; omega⟩
  unfold spec_DrawFuel.f
  refine Ev.bind hs ?_
  simp only [e1, e2, e3, e4, w1, Option.bind_some]
  exact r1
/-! the law -/
theorem acc_ok {n : Nat} {x y : Int} (h8 : (n : Int) < 8) (h1 : 0 ≤ x) (h2 : x ≤ 10000 * n) (h3 : 0 ≤ y ∧ y ≤ 10000) : wrap64 (x + y) = x + y ∧ 0 ≤ x + y ∧ x + y ≤ 10000 * ((n + 1 : Nat) : Int) :=
  ⟨w64 (by omega) (by omega), by omega, by omega⟩
theorem law_sums {tanks left : List Tk} {step : Int} {plan : List Bn} {ok : Bool} {M F A : List Int} {m0 m1 : Int} (ht : TOk tanks) (hf : TOk left) (hlen : left.length = tanks.length) {R : Bool}
    (h : Ev (fun k => laws_FnBurnt.l1 k tanks step plan ok (sumF tanks) (sumF left) 0 0 M F A m0 m1) R) : ∀ (d n : Nat) (a b : Int), n + d = tanks.length → 0 ≤ a → a ≤ 10000 * n → 0 ≤ b → b ≤ 10000 * n → a + sumF (tanks.drop n) = sumF tanks → b + sumF (left.drop n) = sumF left →
    Ev (fun k => laws_FnBurnt.l0 k tanks step plan ok left a b 0 (n : Int) M F A m0 m1) R := by
  have h8 := ht.1
  intro d
  induction d with
  | zero =>
    intro n a b hn a0 a1 b0 b1 ha hb
    rw [List.drop_eq_nil_of_le (by omega)] at ha hb
    have ha' : a = sumF tanks := by rw [← ha]; simp [sumF]
    have hb' : b = sumF left := by rw [← hb]; simp [sumF]
    subst ha' hb'
    refine ev_succ ?_
    simp only [laws_FnBurnt.l0]
    exact ev_neg (by omega) h
  | succ d ih =>
    intro n a b hn a0 a1 b0 b1 ha hb
    have ks : n < tanks.length ∧ n < left.length ∧ n + 1 + d = tanks.length ∧ n < 8 := by clear ha hb a0 a1 b0 b1; omega
    obtain ⟨k1', k2', k3, k8'⟩ := ks
    have hw := w64_succ (n := n) (m := tanks.length) k1' (Nat.le_trans h8 (by decide))
    have k0 : (0 : Int) ≤ (n : Int) := Int.natCast_nonneg n
    have k1 : (n : Int) < (tanks.length : Int) := Int.ofNat_lt.2 k1'
    have k2 : (n : Int) < (left.length : Int) := Int.ofNat_lt.2 k2'
    have k8 : (n : Int) < 8 := Int.ofNat_lt.2 k8'
    rw [sum_drop k1', ← Int.add_assoc] at ha
    rw [sum_drop k2', ← Int.add_assoc] at hb
    obtain ⟨p1, p2, p3⟩ := acc_ok k8 a0 a1 (ht.2 n).1
    obtain ⟨q1, q2, q3⟩ := acc_ok k8 b0 b1 (hf.2 n).1
    refine ev_succ ?_
    simp only [laws_FnBurnt.l0, rdTk, hw, p1, q1]
    exact ev_pos k1 (ev_pos k0 (ev_pos k2 (ih (n + 1) _ _ k3 p2 p3 q2 q3 ha hb)))
theorem law_plan {tanks : List Tk} {step : Int} {plan : List Bn} {ok : Bool} {M F A : List Int} {m0 m1 x y : Int} (hp : plan.length ≤ 60) (hs2 : step ≤ 10000) (hall : ∀ b ∈ plan, 1 ≤ b.f1 ∧ b.f1 ≤ step) {R : Bool}
    (h : Ev (fun k => if (wrap64 (x - y)) = many plan then (if y = 0 then ((impl_Leaves.f k M F A m0 m1 tanks plan).bind fun t308 => (laws_FnBurnt.j3 k tanks plan (ok != (t308 == (plan.length : Int))) M F A m0 m1)) else (laws_FnBurnt.j3 k tanks plan (ok != false) M F A m0 m1)) else (laws_FnBurnt.j3 k tanks plan true M F A m0 m1)) R) :
    ∀ (d n : Nat) (a : Int), n + d = plan.length → 0 ≤ a → a ≤ 10000 * n → a + many (plan.drop n) = many plan → Ev (fun k => laws_FnBurnt.l1 k tanks step plan ok x y a (n : Int) M F A m0 m1) R := by
  intro d
  induction d with
  | zero =>
    intro n a hn a0 a1 ha
    rw [List.drop_eq_nil_of_le (by omega), show a + many [] = a by simp [many]] at ha
    subst ha
    refine ev_succ ?_
    simp only [laws_FnBurnt.l1]
    exact ev_neg (by omega) h
  | succ d ih =>
    intro n a hn a0 a1 ha
    have hw := w64_succ (n := n) (m := plan.length) (by omega) (by omega)
    have hb := hall (plan.getD n z62) (by rw [List.getD_eq_getElem?_getD, List.getElem?_eq_getElem (by omega)]; simp)
    rw [drop_cons (by omega)] at ha
    simp only [many] at ha
    refine ev_succ ?_
    simp only [laws_FnBurnt.l1, rdBn, hw]
    rw [w64 (x := a + (plan.getD n z62).f1) (by omega) (by omega)]
    exact ev_pos (by omega) (ev_pos (by omega) (ev_neg (by omega) (ev_neg (by omega) (ih (n + 1) _ (by omega) (by omega) (by omega) (by omega)))))
theorem FnBurnt : laws_FnBurnt.PureR := by
  intro l0 ⟨hm, hwf⟩
  refine Ev.rounds ?_
  unfold laws_FnBurnt.f
  by_cases hb : l0.length ≤ 1048576
  · rw [big_ev hb]
    obtain ⟨M, F, A, m0, m1, tanks, hd, hM, ht, h1⟩ := fuel_ev hb
    obtain ⟨t, qt, t0, t1⟩ := at_ev hwf hb 3 (by omega) (by omega)
    obtain ⟨g0, g1⟩ := tmod_bd (x := t) (a := 40) t0 (by decide)
    obtain ⟨step, hst⟩ : ∃ s, s = 5 + Int.tmod t 40 := ⟨_, rfl⟩
    have ws : wrap64 (5 + Int.tmod t 40) = step := by rw [hst]; exact w64 (by omega) (by omega)
    obtain ⟨⟨plan, ok⟩, fin, v, r1, r2, r3, r4, r5, r6⟩ := order_all (m0 := m0) (m1 := m1) (step := step) hM ht (by omega) (by omega)
    have r2' : plan.length ≤ 60 := r2
    have r3' : Plan M F A m0 m1 step tanks plan fin := r3
    obtain ⟨s1, s2, s3⟩ := plan_sum r3'
    have hf := plan_ok r3' ht
    have b1 := sum_bd tanks ht.2
    have b2 := sum_bd fin hf.2
    have h8 := ht.1
    have h8f := hf.1
    have hburn := burnt_plan r2' (by omega) ht r3'
    have hbad := burnt_bad ht h1
    -- the last test
    have last : ∀ b : Bool, b = false → Ev (fun k => laws_FnBurnt.j3 k tanks plan b M F A m0 m1) true := by
      intro b hb
      subst hb
      refine ev_succ ?_
      simp only [laws_FnBurnt.j3]
      refine ev_neg (by decide) ?_
      by_cases c : (plan.length : Int) > 0
      · have hv : v = (plan.length : Int) := r6 (by show 0 < plan.length; omega)
        refine ev_pos c (Ev.bind r4 (ev_pos hv (Ev.bind hbad (ev_pos (by trivial) ?_))))
        simpa using Ev.now true
      · refine ev_neg c (Ev.bind hbad (ev_pos (by trivial) ?_))
        simpa using Ev.now true
    have r5' : ok = true ↔ sumF fin = 0 ∧ v = (plan.length : Int) := r5
    simp only [qt, ws, Option.bind_some]
    refine ev_neg (by decide) (Ev.bind hd (Ev.bind r1 (Ev.bind hburn (ev_pos (by trivial) ?_))))
    have hne : ((fin.length : Int) != (tanks.length : Int)) = false := by rw [s2]; simp
    dsimp only
    rw [hne]
    refine ev_succ ?_
    simp only [laws_FnBurnt.j0]
    refine ev_neg (by decide) (law_sums ht hf s2 ?_ tanks.length 0 0 0 (by omega) (by omega) (by omega) (by omega) (by omega) (by rw [List.drop_zero, Int.zero_add]) (by rw [List.drop_zero, Int.zero_add]))
    refine law_plan r2' (by omega) (plan_all r3') ?_ plan.length 0 0 (by omega) (by omega) (by omega) (by rw [List.drop_zero, Int.zero_add])
    rw [w64 (x := sumF tanks - sumF fin) (by omega) (by omega)]
    refine ev_pos s1 ?_
    by_cases c : sumF fin = 0
    · refine ev_pos c (Ev.bind r4 (last _ ?_))
      by_cases cv : v = (plan.length : Int)
      · rw [r5'.2 ⟨c, cv⟩, cv]; simp
      · have : ok = false := by
          cases ok
          · rfl
          · exact absurd (r5'.1 rfl).2 cv
        rw [this]; simpa using cv
    · refine ev_neg c (last _ ?_)
      have : ok = false := by
        cases ok
        · rfl
        · exact absurd (r5'.1 rfl).1 c
      rw [this]; rfl
  · rw [big_big hb]
    simp only [Option.bind_some]
    exact ev_pos (by trivial) (Ev.now _)

end Go.Proofs.Yteedbciobdcmaaa.Pure
