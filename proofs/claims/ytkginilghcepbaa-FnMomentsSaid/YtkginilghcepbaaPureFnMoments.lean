/- Proved here: sums of drawn items are those of both halves; a sum that is inside the drawn envelope of one width stays so when it is doubled; no condition. -/
import Derived.Test.YtkginilghcepbaaPureDefFnMoments
namespace Go.Proofs.Ytkginilghcepbaa.Pure
open Go.RowKit Go.Proofs.Ytkginilghcepbaa.QFnMoments Go.Proofs.YtkginilghcepbaaW.PrintWords Go.Proofs.YtkginilghcepbaaW.PrintLast Go.Proofs.YtkginilghcepbaaW.PrintMore
set_option linter.unusedVariables false
set_option linter.unusedSimpArgs false

theorem ev_pos {c : Prop} [Decidable c] {α : Type} {A B : Nat → Option α} {r : α} (h : c) (k : Ev A r) : Ev (fun n => if c then A n else B n) r := by
  simpa only [if_pos h] using k
theorem ev_neg {c : Prop} [Decidable c] {α : Type} {A B : Nat → Option α} {r : α} (h : ¬ c) (k : Ev B r) : Ev (fun n => if c then A n else B n) r := by
  simpa only [if_neg h] using k
theorem ev_succ {α : Type} {g : Nat → Option α} {r : α} (h : Ev (fun k => g (k + 1)) r) : Ev g r := Ev.step (fun _ => rfl) h
theorem ex_succ {α : Type} {g : Nat → Option α} (h : ∃ r, Ev (fun k => g (k + 1)) r) : ∃ r, Ev g r := by
  obtain ⟨r, h⟩ := h
  exact ⟨r, ev_succ h⟩
theorem ev_one {α : Type} {g : Nat → Option α} {r q : α} (h : Ev g r) (h' : Ev g q) : r = q := by
  obtain ⟨K, hK⟩ := h
  obtain ⟨L, hL⟩ := h'
  have a := hK (max K L) (Nat.le_max_left _ _)
  have b := hL (max K L) (Nat.le_max_right _ _)
  exact Option.some.inj (a.symm.trans b)
theorem ev_bool {α : Type} {A B : Nat → Option α} {r : α} (b : Bool) (h1 : b = true → Ev A r) (h2 : b = false → Ev B r) : Ev (fun n => if b = true then A n else B n) r := by
  cases b with
  | true => exact ev_pos (by trivial) (h1 rfl)
  | false => exact ev_neg (by decide) (h2 rfl)
theorem bool_eq_of_iff {a b : Bool} {p : Prop} (h : a = true ↔ p) (h' : b = true ↔ p) : a = b := by
  rw [Bool.eq_iff_iff]
  exact h.trans h'.symm
theorem w64 {x : Int} (h0 : -9223372036854775808 ≤ x) (h1 : x ≤ 9223372036854775807) : wrap64 x = x := by
  unfold wrap64
  omega
theorem w64_succ {n m : Nat} (h : n < m) (hm : m ≤ 9223372036854775807) : wrap64 ((n : Int) + 1) = ((n + 1 : Nat) : Int) := by
  unfold wrap64
  omega
theorem rd_nat (l : List Int) (n : Nat) : rd l (n : Int) = l.getD n 0 := by
  unfold rd
  rw [Int.toNat_natCast]
theorem take_set_succ {α : Type} (d : α) {x0 x3 : List α} {n : Nat} (h : n < x0.length) (hl : x3.length = x0.length) (ht : x3.take n = x0.take n) : (x3.set n (x0.getD n d)).take (n + 1) = x0.take (n + 1) := by
  apply List.ext_getElem?
  intro i
  simp only [List.getElem?_take, List.getElem?_set]
  by_cases hi : i < n + 1
  · rw [if_pos hi, if_pos hi]
    by_cases he : n = i
    · subst he
      rw [if_pos rfl, if_pos (by omega), List.getD_eq_getElem?_getD, List.getElem?_eq_getElem h]
      rfl
    · rw [if_neg he]
      have := congrArg (fun l => l[i]?) ht
      simpa only [List.getElem?_take, if_pos (show i < n by omega)] using this
  · rw [if_neg hi, if_neg hi]
theorem u8_bounds {l : List Int} (h : ∀ x ∈ l, 0 ≤ x ∧ x ≤ 255) (n : Nat) : 0 ≤ l.getD n 0 ∧ l.getD n 0 ≤ 255 := by
  rw [List.getD_eq_getElem?_getD]
  cases e : l[n]? with
  | none => simp
  | some x =>
    exact h x (List.mem_of_getElem? e)
theorem getD_map {α β : Type} (c : α → β) (l : List α) (n : Nat) (d : α) : (l.map c).getD n (c d) = c (l.getD n d) := by
  simp only [List.getD_eq_getElem?_getD, List.getElem?_map]
  cases l[n]? <;> rfl
/-- It ends, with true just where p holds. -/
def EvB (g : Nat → Option Bool) (p : Prop) : Prop := ∃ b, Ev g b ∧ (b = true ↔ p)
theorem EvB.iff {g : Nat → Option Bool} {p q : Prop} (h : EvB g p) (h' : p ↔ q) : EvB g q := by
  obtain ⟨b, hb, ib⟩ := h
  exact ⟨b, hb, ib.trans h'⟩
theorem EvB.dec {c : Prop} [Decidable c] : EvB (fun _ => some (decide c)) c := ⟨decide c, Ev.now _, decide_eq_true_iff⟩
theorem EvB.ite {c : Prop} [Decidable c] {A : Nat → Option Bool} {p : Prop} (h : EvB A p) : EvB (fun n => if c then A n else some false) (c ∧ p) := by
  obtain ⟨b, hb, ib⟩ := h
  by_cases hc : c
  · exact ⟨b, ev_pos hc hb, ⟨fun h => ⟨hc, ib.1 h⟩, fun h => ib.2 h.2⟩⟩
  · exact ⟨false, ev_neg hc (Ev.now _), ⟨fun h => (Bool.false_ne_true h).elim, fun h => absurd h.1 hc⟩⟩
theorem EvB.ite_not {c : Prop} [Decidable c] {A : Nat → Option Bool} {p : Prop} (h : EvB A p) : EvB (fun n => if c then some false else A n) (¬ c ∧ p) := by
  obtain ⟨b, hb, ib⟩ := h
  by_cases hc : c
  · exact ⟨false, ev_pos hc (Ev.now _), ⟨fun h => (Bool.false_ne_true h).elim, fun h => absurd hc h.1⟩⟩
  · exact ⟨b, ev_neg hc hb, ⟨fun h => ⟨hc, ib.1 h⟩, fun h => ib.2 h.2⟩⟩
theorem EvB.bind {g A : Nat → Option Bool} {p q : Prop} (h : EvB g p) (h' : EvB A q) : EvB (fun n => (g n).bind fun t => if t = true then A n else some false) (p ∧ q) := by
  obtain ⟨b, hb, ib⟩ := h
  obtain ⟨c, hc, ic⟩ := h'
  cases b with
  | true => exact ⟨c, Ev.bind hb (ev_pos rfl hc), ⟨fun h => ⟨ib.1 rfl, ic.1 h⟩, fun h => ic.2 h.2⟩⟩
  | false => exact ⟨false, Ev.bind hb (ev_neg (by decide) (Ev.now _)), ⟨fun h => (Bool.false_ne_true h).elim, fun h => absurd (ib.2 h.1) (by decide)⟩⟩
theorem EvB.last {g : Nat → Option Bool} {p : Prop} (h : EvB g p) : EvB (fun n => (g n).bind fun t => some t) p := by
  obtain ⟨b, hb, ib⟩ := h
  exact ⟨b, Ev.bind hb (Ev.now _), ib⟩
theorem EvB.same {g g' : Nat → Option Bool} {p : Prop} (h : EvB g p) (h' : EvB g' p) : ∃ b, Ev g b ∧ Ev g' b ∧ (b = true ↔ p) := by
  obtain ⟨b, hb, ib⟩ := h
  obtain ⟨c, hc, ic⟩ := h'
  obtain rfl : c = b := bool_eq_of_iff ic ib
  exact ⟨c, hb, hc, ib⟩
theorem EvB.bindE {g A B : Nat → Option Bool} {p q : Prop} (hB : Ev B false) (h : EvB g p) (h' : EvB A q) : EvB (fun n => (g n).bind fun t => if t = true then A n else B n) (p ∧ q) := by
  obtain ⟨b, hb, ib⟩ := h
  obtain ⟨c, hc, ic⟩ := h'
  cases b with
  | true => exact ⟨c, Ev.bind hb (ev_pos rfl hc), ⟨fun h => ⟨ib.1 rfl, ic.1 h⟩, fun h => ic.2 h.2⟩⟩
  | false => exact ⟨false, Ev.bind hb (ev_neg (by decide) hB), ⟨fun h => (Bool.false_ne_true h).elim, fun h => absurd (ib.2 h.1) (by decide)⟩⟩
theorem EvB.iteE {c : Prop} [Decidable c] {A B : Nat → Option Bool} {p : Prop} (hB : Ev B false) (h : EvB A p) : EvB (fun n => if c then A n else B n) (c ∧ p) := by
  obtain ⟨b, hb, ib⟩ := h
  by_cases hc : c
  · exact ⟨b, ev_pos hc hb, ⟨fun h => ⟨hc, ib.1 h⟩, fun h => ib.2 h.2⟩⟩
  · exact ⟨false, ev_neg hc hB, ⟨fun h => (Bool.false_ne_true h).elim, fun h => absurd h.1 hc⟩⟩
theorem EvB.bindN {g : Nat → Option Bool} {J : Nat → Bool → Option Bool} {p q : Prop} (hB : Ev (fun n => J n true) false) (h : EvB g p) (h' : EvB (fun n => J n false) q) : EvB (fun n => (g n).bind fun t => J n (!t)) (p ∧ q) := by
  obtain ⟨b, hb, ib⟩ := h
  obtain ⟨c, hc, ic⟩ := h'
  cases b with
  | true => exact ⟨c, Ev.bind hb hc, ⟨fun h => ⟨ib.1 rfl, ic.1 h⟩, fun h => ic.2 h.2⟩⟩
  | false => exact ⟨false, Ev.bind hb hB, ⟨fun h => (Bool.false_ne_true h).elim, fun h => absurd (ib.2 h.1) (by decide)⟩⟩
theorem EvB.succ {g : Nat → Option Bool} {p : Prop} (h : EvB (fun k => g (k + 1)) p) : EvB g p := by
  obtain ⟨b, hb, ib⟩ := h
  exact ⟨b, ev_succ hb, ib⟩
theorem EvB.true_ {p : Prop} (h : p) : EvB (fun _ => some true) p := ⟨true, Ev.now _, ⟨fun _ => h, fun _ => rfl⟩⟩
theorem EvB.false_ {p : Prop} (h : ¬ p) : EvB (fun _ => some false) p := ⟨false, Ev.now _, ⟨fun e => (Bool.false_ne_true e).elim, fun e => absurd e h⟩⟩
theorem EvB.pos {c : Prop} [Decidable c] {A B : Nat → Option Bool} {p : Prop} (hc : c) (h : EvB A p) : EvB (fun n => if c then A n else B n) p := by
  simpa only [if_pos hc] using h
theorem EvB.neg {c : Prop} [Decidable c] {A B : Nat → Option Bool} {p : Prop} (hc : ¬ c) (h : EvB B p) : EvB (fun n => if c then A n else B n) p := by
  simpa only [if_neg hc] using h

def AllIn (l : List Int) (lo hi : Int) : Prop := ∀ n, n < l.length → lo ≤ l.getD n 0 ∧ l.getD n 0 ≤ hi
def Rise (l : List Int) : Prop := ∀ n, n + 1 < l.length → l.getD n 0 < l.getD (n + 1) 0

theorem impl_in_eq (a b c : Int) : impl_in.f a b c = some (decide (b ≤ a ∧ a ≤ c)) := by
  unfold impl_in.f
  split
  · congr 1
    rw [decide_eq_decide]
    omega
  · congr 1
    symm
    rw [decide_eq_false_iff_not]
    omega
theorem impl_in_evB (a b c : Int) : EvB (fun _ => impl_in.f a b c) (b ≤ a ∧ a ≤ c) := by
  rw [impl_in_eq]
  exact EvB.dec

theorem impl_all_loop (l : List Int) (lo hi : Int) (hx : l.length ≤ 9223372036854775807) : ∀ (d n : Nat), n + d = l.length → (∀ m, m < n → lo ≤ l.getD m 0 ∧ l.getD m 0 ≤ hi) → ∃ b, Ev (fun k => impl_allIn.l0 k lo hi l (l.length : Int) (n : Int)) b ∧ (b = true ↔ AllIn l lo hi) := by
  intro d
  induction d with
  | zero =>
    intro n hn hm
    refine ⟨true, ?_, ⟨fun _ m h => hm m (by omega), fun _ => rfl⟩⟩
    refine ev_succ ?_
    simp only [impl_allIn.l0]
    exact ev_neg (by omega) (Ev.now _)
  | succ d ih =>
    intro n hn hm
    by_cases h : lo ≤ l.getD n 0 ∧ l.getD n 0 ≤ hi
    · obtain ⟨b, hb, hiff⟩ := ih (n + 1) (by omega) (fun m hm' => by
        by_cases e : m = n
        · subst e; exact h
        · exact hm m (by omega))
      refine ⟨b, ?_, hiff⟩
      refine ev_succ ?_
      simp only [impl_allIn.l0, impl_in_eq, Option.bind_some]
      refine ev_pos (by omega) (ev_pos (by omega) (ev_pos (by omega) (ev_pos (by rw [rd_nat]; simpa using h) ?_)))
      rw [w64_succ (m := l.length) (by omega) hx]
      exact hb
    · refine ⟨false, ?_, ⟨fun h' => (Bool.false_ne_true h').elim, fun h' => absurd (h' n (by omega)) h⟩⟩
      refine ev_succ ?_
      simp only [impl_allIn.l0, impl_in_eq, Option.bind_some]
      exact ev_pos (by omega) (ev_pos (by omega) (ev_pos (by omega) (ev_neg (by rw [rd_nat]; simpa using h) (Ev.now _))))
theorem impl_all_ev (l : List Int) (lo hi : Int) (hx : l.length ≤ 9223372036854775807) : ∃ b, Ev (fun k => impl_allIn.f k l lo hi) b ∧ (b = true ↔ AllIn l lo hi) := by
  unfold impl_allIn.f
  exact impl_all_loop l lo hi hx l.length 0 (by omega) (fun m h => by omega)

theorem impl_asc_loop (l : List Int) (lo hi : Int) (hx : l.length ≤ 9223372036854775807) : ∀ (d n : Nat), n + d = l.length → (∀ m, m < n → lo ≤ l.getD m 0 ∧ l.getD m 0 ≤ hi) → (∀ m, m + 1 < n → l.getD m 0 < l.getD (m + 1) 0) → ∃ b, Ev (fun k => impl_ascends.l0 k l lo hi l (l.length : Int) (n : Int)) b ∧ (b = true ↔ AllIn l lo hi ∧ Rise l) := by
  intro d
  induction d with
  | zero =>
    intro n hn hm hr
    refine ⟨true, ?_, ⟨fun _ => ⟨fun m h => hm m (by omega), fun m h => hr m (by omega)⟩, fun _ => rfl⟩⟩
    refine ev_succ ?_
    simp only [impl_ascends.l0]
    exact ev_neg (by omega) (Ev.now _)
  | succ d ih =>
    intro n hn hm hr
    by_cases h : lo ≤ l.getD n 0 ∧ l.getD n 0 ≤ hi
    · have hm1 : ∀ m, m < n + 1 → lo ≤ l.getD m 0 ∧ l.getD m 0 ≤ hi := fun m hm' => by
        by_cases e : m = n
        · subst e; exact h
        · exact hm m (by omega)
      by_cases h0 : n = 0
      · obtain ⟨b, hb, hiff⟩ := ih (n + 1) (by omega) hm1 (fun m hm' => by omega)
        refine ⟨b, ?_, hiff⟩
        refine ev_succ ?_
        simp only [impl_ascends.l0, impl_in_eq, Option.bind_some]
        refine ev_pos (by omega) (ev_pos (by omega) (ev_pos (by omega) (ev_pos (by rw [rd_nat]; simpa using h) (ev_neg (by omega) ?_))))
        rw [w64_succ (m := l.length) (by omega) hx]
        exact hb
      · have e1 : wrap64 ((n : Int) - 1) = ((n - 1 : Nat) : Int) := by rw [w64 (by omega) (by omega)]; omega
        by_cases h2 : l.getD (n - 1) 0 < l.getD n 0
        · obtain ⟨b, hb, hiff⟩ := ih (n + 1) (by omega) hm1 (fun m hm' => by
            by_cases e : m + 1 = n
            · have : m = n - 1 := by omega
              subst this
              rw [e]; exact h2
            · exact hr m (by omega))
          refine ⟨b, ?_, hiff⟩
          refine ev_succ ?_
          simp only [impl_ascends.l0, impl_in_eq, Option.bind_some, e1, rd_nat]
          refine ev_pos (by omega) (ev_pos (by omega) (ev_pos (by omega) (ev_pos (by simpa using h) (ev_pos (by omega) (ev_pos (by omega) (ev_pos (by omega) (ev_neg (by omega) ?_)))))))
          rw [w64_succ (m := l.length) (by omega) hx]
          exact hb
        · refine ⟨false, ?_, ⟨fun h' => (Bool.false_ne_true h').elim, fun h' => absurd (by have := h'.2 (n - 1) (by omega); rwa [show n - 1 + 1 = n by omega] at this) h2⟩⟩
          refine ev_succ ?_
          simp only [impl_ascends.l0, impl_in_eq, Option.bind_some, e1, rd_nat]
          exact ev_pos (by omega) (ev_pos (by omega) (ev_pos (by omega) (ev_pos (by simpa using h) (ev_pos (by omega) (ev_pos (by omega) (ev_pos (by omega) (ev_pos (by omega) (Ev.now _))))))))
    · refine ⟨false, ?_, ⟨fun h' => (Bool.false_ne_true h').elim, fun h' => absurd (h'.1 n (by omega)) h⟩⟩
      refine ev_succ ?_
      simp only [impl_ascends.l0, impl_in_eq, Option.bind_some]
      exact ev_pos (by omega) (ev_pos (by omega) (ev_pos (by omega) (ev_neg (by rw [rd_nat]; simpa using h) (Ev.now _))))
theorem impl_asc_ev (l : List Int) (lo hi : Int) (hx : l.length ≤ 9223372036854775807) : ∃ b, Ev (fun k => impl_ascends.f k l lo hi) b ∧ (b = true ↔ AllIn l lo hi ∧ Rise l) := by
  unfold impl_ascends.f
  exact impl_asc_loop l lo hi hx l.length 0 (by omega) (fun m h => by omega) (fun m h => by omega)

def Under (F A : List Int) : Prop := ∀ n, n < F.length → F.getD n 0 ≤ A.getD n 0
def EnvP (M F A : List Int) : Prop := (2 ≤ M.length ∧ M.length ≤ 10) ∧ F.length = M.length ∧ A.length = M.length ∧ Rise M ∧ AllIn M 0 400000 ∧ AllIn F (-1000) 1000 ∧ AllIn A (-1000) 1000 ∧ Under F A
theorem impl_env_loop (M F A : List Int) (hF : F.length = M.length) (hA : A.length = M.length) (hx : M.length ≤ 1000) : ∀ (d n : Nat), n + d = M.length → (∀ m, m < n → F.getD m 0 ≤ A.getD m 0) → EvB (fun k => impl_EnvelopeOk.l0 k F (F.length : Int) (n : Int) M F A) (Under F A ∧ AllIn F (-1000) 1000 ∧ AllIn A (-1000) 1000) := by
  intro d
  induction d with
  | zero =>
    intro n hn hm
    refine EvB.succ ?_
    simp only [impl_EnvelopeOk.l0]
    refine EvB.neg (by omega) ((EvB.bind (impl_all_ev F _ _ (by omega)) (EvB.last (impl_all_ev A _ _ (by omega)))).iff ?_)
    exact ⟨fun h => ⟨fun m h' => hm m (by omega), h⟩, fun h => h.2⟩
  | succ d ih =>
    intro n hn hm
    refine EvB.succ ?_
    simp only [impl_EnvelopeOk.l0, rd_nat]
    refine EvB.pos (by omega) (EvB.pos (by omega) (EvB.pos (by omega) (EvB.pos (by omega) ?_)))
    by_cases h : F.getD n 0 > A.getD n 0
    · exact EvB.pos h (EvB.false_ (fun h' => by have := h'.1 n (by omega); omega))
    · refine EvB.neg h ?_
      rw [w64_succ (m := M.length) (n := n) (by omega) (by omega)]
      refine ih (n + 1) (by omega) (fun m hm' => ?_)
      by_cases e : m = n
      · subst e; omega
      · exact hm m (by omega)
theorem impl_env_ev (M F A : List Int) (h : M.length + F.length + A.length ≤ 1048576) : EvB (fun k => impl_EnvelopeOk.f k M F A) (EnvP M F A) := by
  have bad : Ev (fun k => impl_EnvelopeOk.j0 k true M F A) false := by
    refine ev_succ ?_
    simp only [impl_EnvelopeOk.j0]
    exact ev_pos (by trivial) (Ev.now _)
  by_cases hs : (2 ≤ M.length ∧ M.length ≤ 10) ∧ F.length = M.length ∧ A.length = M.length
  · have good : EvB (fun k => impl_EnvelopeOk.j0 k false M F A) (Under F A ∧ AllIn F (-1000) 1000 ∧ AllIn A (-1000) 1000) := by
      refine EvB.succ ?_
      simp only [impl_EnvelopeOk.j0]
      exact EvB.neg (by decide) (impl_env_loop M F A hs.2.1 hs.2.2 (by omega) M.length 0 (by omega) (fun m h => by omega))
    unfold impl_EnvelopeOk.f
    refine (EvB.bindE bad (impl_in_evB _ _ _) (EvB.iteE bad (EvB.iteE bad (EvB.bindN (J := fun k b => impl_EnvelopeOk.j0 k b M F A) bad (impl_asc_ev M _ _ (by omega)) good)))).iff ?_
    unfold EnvP
    constructor
    · rintro ⟨h1, h2, h3, ⟨h4, h5⟩, h6, h7, h8⟩; exact ⟨hs.1, hs.2.1, hs.2.2, h5, h4, h7, h8, h6⟩
    · rintro ⟨h1, h2, h3, h4, h5, h6, h7, h8⟩; exact ⟨by omega, by omega, by omega, ⟨h5, h4⟩, h8, h6, h7⟩
  · refine ⟨false, ?_, ⟨fun e => (Bool.false_ne_true e).elim, fun e => absurd ⟨e.1, e.2.1, e.2.2.1⟩ hs⟩⟩
    simp only [impl_EnvelopeOk.f, impl_in_eq, Option.bind_some]
    by_cases h1 : 2 ≤ (M.length : Int) ∧ (M.length : Int) ≤ 10
    · simp only [decide_eq_true h1]
      by_cases h2 : (F.length : Int) = (M.length : Int)
      · by_cases h3 : (A.length : Int) = (M.length : Int)
        · exact absurd ⟨by omega, by omega, by omega⟩ hs
        · exact ev_pos (by trivial) (ev_pos h2 (ev_neg h3 bad))
      · exact ev_pos (by trivial) (ev_neg h2 bad)
    · simp only [decide_eq_false h1]
      exact ev_neg (by decide) bad

theorem at_ev {l : List Int} (h : ∀ x ∈ l, 0 ≤ x ∧ x ≤ 255) (hl : l.length ≤ 1048576) (i : Int) (h0 : 0 ≤ i) (h1 : i ≤ 1000000) : ∃ v, laws_at.f l i = some v ∧ 0 ≤ v ∧ v ≤ 255 := by
  unfold laws_at.f
  by_cases hi : i < (l.length : Int)
  · rw [if_pos hi, if_pos h0]
    have := u8_bounds h i.toNat
    refine ⟨_, rfl, ?_⟩
    unfold rd
    rw [w64 (by omega) (by omega)]
    exact this
  · rw [if_neg hi]
    refine ⟨_, rfl, ?_⟩
    rw [w64 (x := i * 7) (by omega) (by omega), w64 (by omega) (by omega), Int.tmod_eq_emod_of_nonneg (by omega)]
    omega

theorem big_ev {l : List Int} (h : l.length ≤ 1048576) : laws_big.f l = some false := by
  unfold laws_big.f
  rw [decide_eq_false (by omega)]
theorem big_big {l : List Int} (h : ¬ l.length ≤ 1048576) : laws_big.f l = some true := by
  unfold laws_big.f
  rw [decide_eq_true (by omega)]

abbrev It := S64
theorem rdIt (l : List It) (n : Nat) : rd_T64 l (n : Int) = l.getD n z64 := by
  unfold rd_T64
  rw [Int.toNat_natCast]
def okI (t : It) : Prop := (0 ≤ t.f0 ∧ t.f0 ≤ 765) ∧ (-128 ≤ t.f1 ∧ t.f1 ≤ 127)
def OkL (l : List It) : Prop := l.length ≤ 12 ∧ ∀ t ∈ l, okI t
def sM : List It → Int
  | [] => 0
  | t :: ts => t.f0 + sM ts
def sO : List It → Int
  | [] => 0
  | t :: ts => t.f0 * t.f1 + sO ts
theorem sM_append : ∀ a b : List It, sM (a ++ b) = sM a + sM b
  | [], b => by simp [sM]
  | t :: ts, b => by simp only [List.cons_append, sM, sM_append ts b]; omega
theorem sO_append : ∀ a b : List It, sO (a ++ b) = sO a + sO b
  | [], b => by simp [sO]
  | t :: ts, b => by simp only [List.cons_append, sO, sO_append ts b]; omega
theorem prod_bd {t : It} (h : okI t) : -97920 ≤ t.f0 * t.f1 ∧ t.f0 * t.f1 ≤ 97920 := by
  obtain ⟨⟨a0, a1⟩, b0, b1⟩ := h
  have h1 : t.f0 * t.f1 ≤ t.f0 * 127 := Int.mul_le_mul_of_nonneg_left b1 a0
  have h2 : t.f0 * (-128) ≤ t.f0 * t.f1 := Int.mul_le_mul_of_nonneg_left b0 a0
  omega
theorem s_bd : ∀ l : List It, (∀ t ∈ l, okI t) → (0 ≤ sM l ∧ sM l ≤ 765 * l.length) ∧ (-97920 * (l.length : Int) ≤ sO l ∧ sO l ≤ 97920 * l.length)
  | [], _ => by simp [sM, sO]
  | t :: ts, h => by
    have h0 := h t (by simp)
    have h1 := s_bd ts (fun x hx => h x (by simp [hx]))
    have h2 := prod_bd h0
    obtain ⟨⟨a0, a1⟩, _⟩ := h0
    simp only [sM, sO, List.length_cons]
    omega
theorem iin (a b c : Int) : impl_in.f a b c = some (decide (b ≤ a ∧ a ≤ c)) := by
  unfold impl_in.f
  by_cases h : a ≥ b
  · rw [if_pos h]; simp [show b ≤ a from h]
  · rw [if_neg h]; simp [show ¬ b ≤ a from h]
theorem sum_loop (l : List It) (hl : l.length ≤ 12) : ∀ (d n : Nat) (a b : Int), n + d = l.length → (∀ t ∈ l.drop n, okI t) → 0 ≤ a → a ≤ 765 * n → -97920 * (n : Int) ≤ b → b ≤ 97920 * n →
    Ev (fun k => impl_SumOf.l0 k l l (l.length : Int) (n : Int) a b) (a + sM (l.drop n), b + sO (l.drop n), true) := by
  intro d
  induction d with
  | zero =>
    intro n a b hn _ _ _ _ _
    rw [List.drop_of_length_le (by omega)]
    refine ev_succ ?_
    simp only [impl_SumOf.l0, sM, sO, Int.add_zero]
    exact ev_neg (by omega) (ev_neg (by omega) (Ev.now _))
  | succ d ih =>
    intro n a b hn hok h0 h1 h2 h3
    have hlt : n < l.length := by omega
    have hd := List.drop_eq_getElem_cons hlt
    have eg : l.getD n z64 = l[n] := by rw [List.getD_eq_getElem?_getD, List.getElem?_eq_getElem hlt]; rfl
    rw [hd] at hok ⊢
    have ht : okI l[n] := hok _ List.mem_cons_self
    have hp := prod_bd ht
    have hw := w64_succ (n := n) (m := l.length) (by omega) (by omega)
    have ih' := ih (n + 1) (a + l[n].f0) (b + l[n].f0 * l[n].f1) (by omega) (fun t ht => hok t (List.mem_cons_of_mem _ ht)) (by have := ht.1; omega) (by have := ht.1; omega) (by omega) (by omega)
    refine ev_succ ?_
    simp only [impl_SumOf.l0, rdIt, eg, iin, Option.bind_some, sM, sO]
    have e1 : wrap64 (l[n].f0 * l[n].f1) = l[n].f0 * l[n].f1 := w64 (by omega) (by omega)
    have e2 : wrap64 (b + l[n].f0 * l[n].f1) = b + l[n].f0 * l[n].f1 := w64 (by omega) (by omega)
    have e3 : wrap64 (a + l[n].f0) = a + l[n].f0 := w64 (by have := ht.1; omega) (by have := ht.1; omega)
    have q1 : 0 ≤ l[n].f0 ∧ l[n].f0 ≤ 10000 := by have := ht.1; omega
    have q2 : -1000 ≤ l[n].f1 ∧ l[n].f1 ≤ 1000 := by have := ht.2; omega
    rw [e1, e2, e3, hw, ← Int.add_assoc, ← Int.add_assoc]
    exact ev_pos (by omega) (ev_pos (by omega) (ev_pos (by omega) (ev_pos (decide_eq_true q1) (ev_pos (decide_eq_true q2) ih'))))
theorem sum_ev {l : List It} (h : OkL l) : Ev (fun k => impl_SumOf.f k l) (sM l, sO l, true) := by
  have := sum_loop l h.1 l.length 0 0 0 (by omega) (by simpa using h.2) (by omega) (by omega) (by omega) (by omega)
  simpa [impl_SumOf.f] using this
theorem z01 : wrap64 ((0 : Int) + 1) = 1 := by rw [w64 (by omega) (by omega)]; rfl
theorem z02 : wrap64 ((0 : Int) + 2) = 2 := by rw [w64 (by omega) (by omega)]; rfl
theorem lenM : (([1, 300000] : List Int).length : Int) = 2 := rfl
theorem two_in {a b lo hi : Int} (ha : lo ≤ a ∧ a ≤ hi) (hb : lo ≤ b ∧ b ≤ hi) : AllIn [a, b] lo hi := by
  intro n hn
  match n with
  | 0 => exact ha
  | 1 => exact hb
  | n + 2 => (simp only [List.length_cons, List.length_nil] at hn; omega)
theorem envP : EnvP [1, 300000] [-20, -20] [30, 30] := by
  refine ⟨by simp, rfl, rfl, ?_, two_in (by omega) (by omega), two_in (by omega) (by omega), two_in (by omega) (by omega), ?_⟩
  · intro n hn
    match n with
    | 0 => decide
    | n + 1 => (simp only [List.length_cons, List.length_nil] at hn; omega)
  · intro n hn
    match n with
    | 0 => decide
    | 1 => decide
    | n + 2 => (simp only [List.length_cons, List.length_nil] at hn; omega)
theorem env_true : Ev (fun k => impl_EnvelopeOk.f k [1, 300000] [-20, -20] [30, 30]) true := by
  obtain ⟨b, hb, ib⟩ := impl_env_ev [1, 300000] [-20, -20] [30, 30] (by decide)
  obtain rfl : b = true := ib.2 envP
  exact hb
theorem btw (y m : Int) (hm : 1 ≤ m ∧ m ≤ 1000) (hy : -1000 ≤ y ∧ y ≤ 1000) : impl_between.f 1 300000 y y m = some (y * 299999, 299999) := by
  unfold impl_between.f
  have a1 : wrap64 ((300000 : Int) - 1) = 299999 := by rw [w64 (by omega) (by omega)]; rfl
  have a2 : wrap64 (y - y) = 0 := by rw [Int.sub_self]; exact w64 (by omega) (by omega)
  have a3 : wrap64 (m - 1) = m - 1 := w64 (by omega) (by omega)
  rw [a1, a2, a3, w64 (x := y * 299999) (by omega) (by omega), Int.zero_mul, w64 (x := 0) (by omega) (by omega), Int.add_zero, w64 (by omega) (by omega)]
/-- what is inside the drawn envelope -/
theorem inside_val (m M : Int) (hm : 1 ≤ m ∧ m ≤ 1000) (hM : -100000 ≤ M ∧ M ≤ 100000) : Ev (fun k => impl_Inside.f k [1, 300000] [-20, -20] [30, 30] m M) (decide (-20 * m ≤ M ∧ M ≤ 30 * m)) := by
  unfold impl_Inside.f
  refine Ev.bind env_true (ev_pos (by trivial) ?_)
  have e1 : wrap64 ((2 : Int) - 1) = 1 := by rw [w64 (by omega) (by omega)]; rfl
  have r0 : rd [1, 300000] 0 = 1 := rfl
  have r1 : rd [1, 300000] 1 = 300000 := rfl
  have f0 : rd [-20, -20] 0 = -20 := rfl
  have f1 : rd [-20, -20] 1 = -20 := rfl
  have g0 : rd [30, 30] 0 = 30 := rfl
  have g1 : rd [30, 30] 1 = 30 := rfl
  have x1 : mx 1 1 = 1 := by unfold mx; split <;> rfl
  have lF : (([-20, -20] : List Int).length : Int) = 2 := rfl
  have lA : (([30, 30] : List Int).length : Int) = 2 := rfl
  have core : Ev (fun k => impl_inside.j0 k false [1, 300000] [-20, -20] [30, 30] m M) (decide (-20 * m ≤ M ∧ M ≤ 30 * m)) := by
    refine ev_succ ?_
    have hp : Ev (fun k => impl_piece.f k [1, 300000] m) 0 := by
      unfold impl_piece.f
      refine ev_succ ?_
      simp only [impl_piece.l0, z02, lenM]
      exact ev_neg (by decide) (Ev.now _)
    simp only [impl_inside.j0]
    refine ev_neg (by decide) (Ev.bind hp ?_)
    simp only [z01, lenM, lF, lA, r0, r1, f0, f1, g0, g1, btw (-20) m hm (by omega), btw 30 m hm (by omega), Option.bind_some]
    have w1 : wrap64 (M * 299999) = M * 299999 := w64 (by omega) (by omega)
    have w2 : wrap64 (-20 * 299999 * m) = -20 * 299999 * m := w64 (by omega) (by omega)
    have w3 : wrap64 (30 * 299999 * m) = 30 * 299999 * m := w64 (by omega) (by omega)
    rw [w1, w2, w3]
    refine ev_pos (by decide) (ev_pos (by decide) (ev_pos (by decide) (ev_pos (by decide) (ev_pos (by decide) (ev_pos (by decide) (ev_pos (by decide) (ev_pos (by decide) ?_)))))))
    by_cases h : -20 * m ≤ M
    · refine ev_pos (by omega) ?_
      have e : decide (M * 299999 ≤ 30 * 299999 * m) = decide (-20 * m ≤ M ∧ M ≤ 30 * m) := by
        rw [decide_eq_decide]
        omega
      rw [e]
      exact Ev.now _
    · refine ev_neg (by omega) ?_
      rw [decide_eq_false (by omega)]
      exact Ev.now _
  have ins : Ev (fun k => impl_inside.f k [1, 300000] [-20, -20] [30, 30] m M) (decide (-20 * m ≤ M ∧ M ≤ 30 * m)) := by
    unfold impl_inside.f
    simp only [lenM, e1, r0, r1, x1, iin, Option.bind_some]
    have q1 : (1 : Int) ≤ m ∧ m ≤ 300000 := by omega
    have q2 : (-1000000000 : Int) ≤ M ∧ M ≤ 1000000000 := by omega
    rw [decide_eq_true q1, decide_eq_true q2]
    exact ev_pos (by decide) (ev_pos (by decide) (ev_pos (by decide) (ev_pos (by trivial) core)))
  exact Ev.bind ins (Ev.now _)
theorem last_part (l : List Int) (hu : ∀ x ∈ l, 0 ≤ x ∧ x ≤ 255) (hL : l.length ≤ 1048576) : Ev (fun k => laws_FnMoments.j1 k l false) true := by
  obtain ⟨a, ea, a0, a1⟩ := at_ev hu hL 40 (by omega) (by omega)
  obtain ⟨b, eb, b0, b1⟩ := at_ev hu hL 41 (by omega) (by omega)
  refine ev_succ ?_
  simp only [laws_FnMoments.j1, ea, eb, Option.bind_some]
  have w1 : wrap64 (1 + a) = 1 + a := w64 (by omega) (by omega)
  have w2 : wrap64 (b - 128) = b - 128 := w64 (by omega) (by omega)
  have w3 : wrap64 ((b - 128) * 50) = (b - 128) * 50 := w64 (by omega) (by omega)
  have w4 : wrap64 (2 * (1 + a)) = 2 * (1 + a) := w64 (by omega) (by omega)
  have w5 : wrap64 (2 * ((b - 128) * 50)) = 2 * ((b - 128) * 50) := w64 (by omega) (by omega)
  have w6 : wrap64 ((-20) * (1 + a)) = (-20) * (1 + a) := w64 (by omega) (by omega)
  have w7 : wrap64 (30 * (1 + a)) = 30 * (1 + a) := w64 (by omega) (by omega)
  have i1 := inside_val (1 + a) ((b - 128) * 50) (by omega) (by omega)
  have i2 := inside_val (2 * (1 + a)) (2 * ((b - 128) * 50)) (by omega) (by omega)
  have e2 : decide (-20 * (2 * (1 + a)) ≤ 2 * ((b - 128) * 50) ∧ 2 * ((b - 128) * 50) ≤ 30 * (2 * (1 + a))) = decide (-20 * (1 + a) ≤ (b - 128) * 50 ∧ (b - 128) * 50 ≤ 30 * (1 + a)) := by
    rw [decide_eq_decide]; omega
  rw [e2] at i2
  simp only [w1, w2, w3, w4, w5, w6, w7]
  have fin : Ev (fun k => laws_FnMoments.j2 k true) true := by
    refine ev_succ ?_
    simp only [laws_FnMoments.j2]
    exact Ev.now _
  refine Ev.bind i1 (Ev.bind i2 (ev_neg (by simp) ?_))
  by_cases h : (b - 128) * 50 ≥ (-20) * (1 + a)
  · refine ev_pos h (ev_pos ?_ (Ev.bind env_true fin))
    rw [beq_iff_eq, decide_eq_decide]
    omega
  · refine ev_neg h (ev_pos ?_ (Ev.bind env_true fin))
    rw [beq_iff_eq, decide_eq_false_iff_not]
    omega
theorem okL_part {l : List It} (h : OkL l) (k : Nat) : OkL (l.take k) ∧ OkL (l.drop k) :=
  ⟨⟨by have := h.1; rw [List.length_take]; omega, fun t ht => h.2 t (List.mem_of_mem_take ht)⟩, ⟨by have := h.1; rw [List.length_drop]; omega, fun t ht => h.2 t (List.mem_of_mem_drop ht)⟩⟩
theorem one_ok : OkL [(⟨3, -4⟩ : It)] := by
  refine ⟨by decide, fun t ht => ?_⟩
  obtain rfl : t = ⟨3, -4⟩ := by simpa using ht
  exact ⟨⟨by decide, by decide⟩, by decide, by decide⟩
theorem FnMoments : laws_FnMoments.PureR := by
  intro l ⟨_, hu⟩
  refine Ev.rounds ?_
  unfold laws_FnMoments.f
  by_cases hL : l.length ≤ 1048576
  rotate_left
  · rw [big_big hL]
    exact Ev.now _
  rw [big_ev hL]
  simp only [Option.bind_some]
  refine ev_neg (by decide) ?_
  obtain ⟨v0, e0, b0, b1⟩ := at_ev hu hL 0 (by omega) (by omega)
  have m12 : Int.tmod v0 12 = v0 % 12 := Int.tmod_eq_emod_of_nonneg b0
  have loop : ∀ (d n : Nat) (q : List It), (n : Int) + d = v0 % 12 → q.length = n → (∀ t ∈ q, okI t) → Ev (fun k => laws_FnMoments.l0 k l q (n : Int)) true := by
    intro d
    induction d with
    | zero =>
      intro n q hn hq hok
      have hO : OkL q := ⟨by omega, hok⟩
      refine ev_succ ?_
      simp only [laws_FnMoments.l0, e0, Option.bind_some, m12]
      refine ev_neg (by omega) ?_
      have wk : wrap64 ((q.length : Int) / 2) = (q.length : Int) / 2 := w64 (by omega) (by omega)
      have en : (((q.length : Int) / 2) : Int).toNat = q.length / 2 := by omega
      rw [wk, en]
      obtain ⟨o1, o2⟩ := okL_part hO (q.length / 2)
      have s1 := (s_bd _ o1.2)
      have s2 := (s_bd _ o2.2)
      have p1 := o1.1
      have p2 := o2.1
      have f1 : sM q = sM (q.take (q.length / 2)) + sM (q.drop (q.length / 2)) := by rw [← sM_append, List.take_append_drop]
      have f2 : sO q = sO (q.take (q.length / 2)) + sO (q.drop (q.length / 2)) := by rw [← sO_append, List.take_append_drop]
      refine Ev.bind (sum_ev hO) (ev_pos (by omega) (ev_pos (by omega) (Ev.bind (sum_ev o1) (Ev.bind (sum_ev o2) (Ev.bind (sum_ev one_ok) (ev_pos (by trivial) (ev_pos ?_ (ev_pos ?_ ?_))))))))
      · show sM q = wrap64 (sM (q.take (q.length / 2)) + sM (q.drop (q.length / 2)))
        rw [w64 (by omega) (by omega)]; exact f1
      · show sO q = wrap64 (sO (q.take (q.length / 2)) + sO (q.drop (q.length / 2)))
        rw [w64 (by omega) (by omega)]; exact f2
      · exact last_part l hu hL
    | succ d ih =>
      intro n q hn hq hok
      have hq12 : q.length < 12 := by omega
      obtain ⟨p, ep, p0, p1⟩ := at_ev hu hL ((n : Int) + 1) (by omega) (by omega)
      obtain ⟨r, er, r0, r1⟩ := at_ev hu hL ((n : Int) + 20) (by omega) (by omega)
      have w1 : wrap64 ((n : Int) + 1) = (n : Int) + 1 := w64 (by omega) (by omega)
      have w2 : wrap64 ((n : Int) + 20) = (n : Int) + 20 := w64 (by omega) (by omega)
      have w3 : wrap64 (p * 3) = p * 3 := w64 (by omega) (by omega)
      have w4 : wrap64 (r - 128) = r - 128 := w64 (by omega) (by omega)
      have ih' := ih (n + 1) (q ++ [⟨p * 3, r - 128⟩]) (by omega) (by simp; omega) (fun t ht => by
        rw [List.mem_append] at ht
        rcases ht with ht | ht
        · exact hok t ht
        · obtain rfl : t = ⟨p * 3, r - 128⟩ := by simpa using ht
          exact ⟨⟨by show 0 ≤ p * 3; omega, by show p * 3 ≤ 765; omega⟩, by show -128 ≤ r - 128; omega, by show r - 128 ≤ 127; omega⟩)
      refine ev_succ ?_
      simp only [laws_FnMoments.l0, e0, m12, w1, w2, ep, er, w3, w4, Option.bind_some]
      exact ev_pos (by omega) (ev_pos (Nat.lt_trans hq12 (by decide)) ih')
  exact loop (v0 % 12).toNat 0 [] (by omega) rfl (fun t ht => by simp at ht)

end Go.Proofs.Ytkginilghcepbaa.Pure
