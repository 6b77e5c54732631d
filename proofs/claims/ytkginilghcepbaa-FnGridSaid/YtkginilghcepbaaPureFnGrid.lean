/- Proved here: at its corners a drawn grid tells its own numbers, a grid of one number tells it everywhere, and beyond the grid nothing is told; no condition. -/
import Derived.Test.YtkginilghcepbaaPureDefFnGrid
namespace Go.Proofs.Ytkginilghcepbaa.Pure
open Go.RowKit Go.Proofs.Ytkginilghcepbaa.QFnGrid Go.Proofs.YtkginilghcepbaaW.PrintWords Go.Proofs.YtkginilghcepbaaW.PrintLast Go.Proofs.YtkginilghcepbaaW.PrintMore
set_option linter.unusedVariables false
set_option linter.unusedSimpArgs false

theorem ev_pos {c : Prop} [Decidable c] {α : Type} {A B : Nat → Option α} {r : α} (h : c) (k : Ev A r) : Ev (fun n => if c then A n else B n) r := by
  simpa only [if_pos h] using k
theorem ev_neg {c : Prop} [Decidable c] {α : Type} {A B : Nat → Option α} {r : α} (h : ¬ c) (k : Ev B r) : Ev (fun n => if c then A n else B n) r := by
  simpa only [if_neg h] using k
theorem ev_succ {α : Type} {g : Nat → Option α} {r : α} (h : Ev (fun k => g (k + 1)) r) : Ev g r := Ev.step (fun _ => rfl) h
theorem ex_succ {α : Type} {g : Nat → Option α} (h : ∃ r, Ev (fun k => g (k + 1)) r) : ∃ r, Ev g r := by
  obtain ⟨r, h⟩ := h
  exact ⟨r, ev_succ h⟩
theorem ev_one {α : Type} {g : Nat → Option α} {r q : α} (h : Ev g r) (h' : Ev g q) : r = q := by
  obtain ⟨K, hK⟩ := h
  obtain ⟨L, hL⟩ := h'
  have a := hK (max K L) (Nat.le_max_left _ _)
  have b := hL (max K L) (Nat.le_max_right _ _)
  exact Option.some.inj (a.symm.trans b)
theorem ev_bool {α : Type} {A B : Nat → Option α} {r : α} (b : Bool) (h1 : b = true → Ev A r) (h2 : b = false → Ev B r) : Ev (fun n => if b = true then A n else B n) r := by
  cases b with
  | true => exact ev_pos (by trivial) (h1 rfl)
  | false => exact ev_neg (by decide) (h2 rfl)
theorem bool_eq_of_iff {a b : Bool} {p : Prop} (h : a = true ↔ p) (h' : b = true ↔ p) : a = b := by
  rw [Bool.eq_iff_iff]
  exact h.trans h'.symm
theorem w64 {x : Int} (h0 : -9223372036854775808 ≤ x) (h1 : x ≤ 9223372036854775807) : wrap64 x = x := by
  unfold wrap64
  omega
theorem w64_succ {n m : Nat} (h : n < m) (hm : m ≤ 9223372036854775807) : wrap64 ((n : Int) + 1) = ((n + 1 : Nat) : Int) := by
  unfold wrap64
  omega
theorem rd_nat (l : List Int) (n : Nat) : rd l (n : Int) = l.getD n 0 := by
  unfold rd
  rw [Int.toNat_natCast]
theorem take_set_succ {α : Type} (d : α) {x0 x3 : List α} {n : Nat} (h : n < x0.length) (hl : x3.length = x0.length) (ht : x3.take n = x0.take n) : (x3.set n (x0.getD n d)).take (n + 1) = x0.take (n + 1) := by
  apply List.ext_getElem?
  intro i
  simp only [List.getElem?_take, List.getElem?_set]
  by_cases hi : i < n + 1
  · rw [if_pos hi, if_pos hi]
    by_cases he : n = i
    · subst he
      rw [if_pos rfl, if_pos (by omega), List.getD_eq_getElem?_getD, List.getElem?_eq_getElem h]
      rfl
    · rw [if_neg he]
      have := congrArg (fun l => l[i]?) ht
      simpa only [List.getElem?_take, if_pos (show i < n by omega)] using this
  · rw [if_neg hi, if_neg hi]
theorem u8_bounds {l : List Int} (h : ∀ x ∈ l, 0 ≤ x ∧ x ≤ 255) (n : Nat) : 0 ≤ l.getD n 0 ∧ l.getD n 0 ≤ 255 := by
  rw [List.getD_eq_getElem?_getD]
  cases e : l[n]? with
  | none => simp
  | some x =>
    exact h x (List.mem_of_getElem? e)
theorem getD_map {α β : Type} (c : α → β) (l : List α) (n : Nat) (d : α) : (l.map c).getD n (c d) = c (l.getD n d) := by
  simp only [List.getD_eq_getElem?_getD, List.getElem?_map]
  cases l[n]? <;> rfl
/-- It ends, with true just where p holds. -/
def EvB (g : Nat → Option Bool) (p : Prop) : Prop := ∃ b, Ev g b ∧ (b = true ↔ p)
theorem EvB.iff {g : Nat → Option Bool} {p q : Prop} (h : EvB g p) (h' : p ↔ q) : EvB g q := by
  obtain ⟨b, hb, ib⟩ := h
  exact ⟨b, hb, ib.trans h'⟩
theorem EvB.dec {c : Prop} [Decidable c] : EvB (fun _ => some (decide c)) c := ⟨decide c, Ev.now _, decide_eq_true_iff⟩
theorem EvB.ite {c : Prop} [Decidable c] {A : Nat → Option Bool} {p : Prop} (h : EvB A p) : EvB (fun n => if c then A n else some false) (c ∧ p) := by
  obtain ⟨b, hb, ib⟩ := h
  by_cases hc : c
  · exact ⟨b, ev_pos hc hb, ⟨fun h => ⟨hc, ib.1 h⟩, fun h => ib.2 h.2⟩⟩
  · exact ⟨false, ev_neg hc (Ev.now _), ⟨fun h => (Bool.false_ne_true h).elim, fun h => absurd h.1 hc⟩⟩
theorem EvB.ite_not {c : Prop} [Decidable c] {A : Nat → Option Bool} {p : Prop} (h : EvB A p) : EvB (fun n => if c then some false else A n) (¬ c ∧ p) := by
  obtain ⟨b, hb, ib⟩ := h
  by_cases hc : c
  · exact ⟨false, ev_pos hc (Ev.now _), ⟨fun h => (Bool.false_ne_true h).elim, fun h => absurd hc h.1⟩⟩
  · exact ⟨b, ev_neg hc hb, ⟨fun h => ⟨hc, ib.1 h⟩, fun h => ib.2 h.2⟩⟩
theorem EvB.bind {g A : Nat → Option Bool} {p q : Prop} (h : EvB g p) (h' : EvB A q) : EvB (fun n => (g n).bind fun t => if t = true then A n else some false) (p ∧ q) := by
  obtain ⟨b, hb, ib⟩ := h
  obtain ⟨c, hc, ic⟩ := h'
  cases b with
  | true => exact ⟨c, Ev.bind hb (ev_pos rfl hc), ⟨fun h => ⟨ib.1 rfl, ic.1 h⟩, fun h => ic.2 h.2⟩⟩
  | false => exact ⟨false, Ev.bind hb (ev_neg (by decide) (Ev.now _)), ⟨fun h => (Bool.false_ne_true h).elim, fun h => absurd (ib.2 h.1) (by decide)⟩⟩
theorem EvB.last {g : Nat → Option Bool} {p : Prop} (h : EvB g p) : EvB (fun n => (g n).bind fun t => some t) p := by
  obtain ⟨b, hb, ib⟩ := h
  exact ⟨b, Ev.bind hb (Ev.now _), ib⟩
theorem EvB.same {g g' : Nat → Option Bool} {p : Prop} (h : EvB g p) (h' : EvB g' p) : ∃ b, Ev g b ∧ Ev g' b ∧ (b = true ↔ p) := by
  obtain ⟨b, hb, ib⟩ := h
  obtain ⟨c, hc, ic⟩ := h'
  obtain rfl : c = b := bool_eq_of_iff ic ib
  exact ⟨c, hb, hc, ib⟩
theorem EvB.bindE {g A B : Nat → Option Bool} {p q : Prop} (hB : Ev B false) (h : EvB g p) (h' : EvB A q) : EvB (fun n => (g n).bind fun t => if t = true then A n else B n) (p ∧ q) := by
  obtain ⟨b, hb, ib⟩ := h
  obtain ⟨c, hc, ic⟩ := h'
  cases b with
  | true => exact ⟨c, Ev.bind hb (ev_pos rfl hc), ⟨fun h => ⟨ib.1 rfl, ic.1 h⟩, fun h => ic.2 h.2⟩⟩
  | false => exact ⟨false, Ev.bind hb (ev_neg (by decide) hB), ⟨fun h => (Bool.false_ne_true h).elim, fun h => absurd (ib.2 h.1) (by decide)⟩⟩
theorem EvB.iteE {c : Prop} [Decidable c] {A B : Nat → Option Bool} {p : Prop} (hB : Ev B false) (h : EvB A p) : EvB (fun n => if c then A n else B n) (c ∧ p) := by
  obtain ⟨b, hb, ib⟩ := h
  by_cases hc : c
  · exact ⟨b, ev_pos hc hb, ⟨fun h => ⟨hc, ib.1 h⟩, fun h => ib.2 h.2⟩⟩
  · exact ⟨false, ev_neg hc hB, ⟨fun h => (Bool.false_ne_true h).elim, fun h => absurd h.1 hc⟩⟩
theorem EvB.bindN {g : Nat → Option Bool} {J : Nat → Bool → Option Bool} {p q : Prop} (hB : Ev (fun n => J n true) false) (h : EvB g p) (h' : EvB (fun n => J n false) q) : EvB (fun n => (g n).bind fun t => J n (!t)) (p ∧ q) := by
  obtain ⟨b, hb, ib⟩ := h
  obtain ⟨c, hc, ic⟩ := h'
  cases b with
  | true => exact ⟨c, Ev.bind hb hc, ⟨fun h => ⟨ib.1 rfl, ic.1 h⟩, fun h => ic.2 h.2⟩⟩
  | false => exact ⟨false, Ev.bind hb hB, ⟨fun h => (Bool.false_ne_true h).elim, fun h => absurd (ib.2 h.1) (by decide)⟩⟩
theorem EvB.succ {g : Nat → Option Bool} {p : Prop} (h : EvB (fun k => g (k + 1)) p) : EvB g p := by
  obtain ⟨b, hb, ib⟩ := h
  exact ⟨b, ev_succ hb, ib⟩
theorem EvB.true_ {p : Prop} (h : p) : EvB (fun _ => some true) p := ⟨true, Ev.now _, ⟨fun _ => h, fun _ => rfl⟩⟩
theorem EvB.false_ {p : Prop} (h : ¬ p) : EvB (fun _ => some false) p := ⟨false, Ev.now _, ⟨fun e => (Bool.false_ne_true e).elim, fun e => absurd e h⟩⟩
theorem EvB.pos {c : Prop} [Decidable c] {A B : Nat → Option Bool} {p : Prop} (hc : c) (h : EvB A p) : EvB (fun n => if c then A n else B n) p := by
  simpa only [if_pos hc] using h
theorem EvB.neg {c : Prop} [Decidable c] {A B : Nat → Option Bool} {p : Prop} (hc : ¬ c) (h : EvB B p) : EvB (fun n => if c then A n else B n) p := by
  simpa only [if_neg hc] using h

theorem impl_in_eq (a b c : Int) : impl_in.f a b c = some (decide (b ≤ a ∧ a ≤ c)) := by
  unfold impl_in.f
  split
  · congr 1
    rw [decide_eq_decide]
    omega
  · congr 1
    symm
    rw [decide_eq_false_iff_not]
    omega
theorem impl_in_evB (a b c : Int) : EvB (fun _ => impl_in.f a b c) (b ≤ a ∧ a ≤ c) := by
  rw [impl_in_eq]
  exact EvB.dec

def AllIn (l : List Int) (lo hi : Int) : Prop := ∀ n, n < l.length → lo ≤ l.getD n 0 ∧ l.getD n 0 ≤ hi
def Rise (l : List Int) : Prop := ∀ n, n + 1 < l.length → l.getD n 0 < l.getD (n + 1) 0

theorem impl_all_loop (l : List Int) (lo hi : Int) (hx : l.length ≤ 9223372036854775807) : ∀ (d n : Nat), n + d = l.length → (∀ m, m < n → lo ≤ l.getD m 0 ∧ l.getD m 0 ≤ hi) → ∃ b, Ev (fun k => impl_allIn.l0 k lo hi l (l.length : Int) (n : Int)) b ∧ (b = true ↔ AllIn l lo hi) := by
  intro d
  induction d with
  | zero =>
    intro n hn hm
    refine ⟨true, ?_, ⟨fun _ m h => hm m (by omega), fun _ => rfl⟩⟩
    refine ev_succ ?_
    simp only [impl_allIn.l0]
    exact ev_neg (by omega) (Ev.now _)
  | succ d ih =>
    intro n hn hm
    by_cases h : lo ≤ l.getD n 0 ∧ l.getD n 0 ≤ hi
    · obtain ⟨b, hb, hiff⟩ := ih (n + 1) (by omega) (fun m hm' => by
        by_cases e : m = n
        · subst e; exact h
        · exact hm m (by omega))
      refine ⟨b, ?_, hiff⟩
      refine ev_succ ?_
      simp only [impl_allIn.l0, impl_in_eq, Option.bind_some]
      refine ev_pos (by omega) (ev_pos (by omega) (ev_pos (by omega) (ev_pos (by rw [rd_nat]; simpa using h) ?_)))
      rw [w64_succ (m := l.length) (by omega) hx]
      exact hb
    · refine ⟨false, ?_, ⟨fun h' => (Bool.false_ne_true h').elim, fun h' => absurd (h' n (by omega)) h⟩⟩
      refine ev_succ ?_
      simp only [impl_allIn.l0, impl_in_eq, Option.bind_some]
      exact ev_pos (by omega) (ev_pos (by omega) (ev_pos (by omega) (ev_neg (by rw [rd_nat]; simpa using h) (Ev.now _))))
theorem impl_all_ev (l : List Int) (lo hi : Int) (hx : l.length ≤ 9223372036854775807) : ∃ b, Ev (fun k => impl_allIn.f k l lo hi) b ∧ (b = true ↔ AllIn l lo hi) := by
  unfold impl_allIn.f
  exact impl_all_loop l lo hi hx l.length 0 (by omega) (fun m h => by omega)

theorem impl_asc_loop (l : List Int) (lo hi : Int) (hx : l.length ≤ 9223372036854775807) : ∀ (d n : Nat), n + d = l.length → (∀ m, m < n → lo ≤ l.getD m 0 ∧ l.getD m 0 ≤ hi) → (∀ m, m + 1 < n → l.getD m 0 < l.getD (m + 1) 0) → ∃ b, Ev (fun k => impl_ascends.l0 k l lo hi l (l.length : Int) (n : Int)) b ∧ (b = true ↔ AllIn l lo hi ∧ Rise l) := by
  intro d
  induction d with
  | zero =>
    intro n hn hm hr
    refine ⟨true, ?_, ⟨fun _ => ⟨fun m h => hm m (by omega), fun m h => hr m (by omega)⟩, fun _ => rfl⟩⟩
    refine ev_succ ?_
    simp only [impl_ascends.l0]
    exact ev_neg (by omega) (Ev.now _)
  | succ d ih =>
    intro n hn hm hr
    by_cases h : lo ≤ l.getD n 0 ∧ l.getD n 0 ≤ hi
    · have hm1 : ∀ m, m < n + 1 → lo ≤ l.getD m 0 ∧ l.getD m 0 ≤ hi := fun m hm' => by
        by_cases e : m = n
        · subst e; exact h
        · exact hm m (by omega)
      by_cases h0 : n = 0
      · obtain ⟨b, hb, hiff⟩ := ih (n + 1) (by omega) hm1 (fun m hm' => by omega)
        refine ⟨b, ?_, hiff⟩
        refine ev_succ ?_
        simp only [impl_ascends.l0, impl_in_eq, Option.bind_some]
        refine ev_pos (by omega) (ev_pos (by omega) (ev_pos (by omega) (ev_pos (by rw [rd_nat]; simpa using h) (ev_neg (by omega) ?_))))
        rw [w64_succ (m := l.length) (by omega) hx]
        exact hb
      · have e1 : wrap64 ((n : Int) - 1) = ((n - 1 : Nat) : Int) := by rw [w64 (by omega) (by omega)]; omega
        by_cases h2 : l.getD (n - 1) 0 < l.getD n 0
        · obtain ⟨b, hb, hiff⟩ := ih (n + 1) (by omega) hm1 (fun m hm' => by
            by_cases e : m + 1 = n
            · have : m = n - 1 := by omega
              subst this
              rw [e]; exact h2
            · exact hr m (by omega))
          refine ⟨b, ?_, hiff⟩
          refine ev_succ ?_
          simp only [impl_ascends.l0, impl_in_eq, Option.bind_some, e1, rd_nat]
          refine ev_pos (by omega) (ev_pos (by omega) (ev_pos (by omega) (ev_pos (by simpa using h) (ev_pos (by omega) (ev_pos (by omega) (ev_pos (by omega) (ev_neg (by omega) ?_)))))))
          rw [w64_succ (m := l.length) (by omega) hx]
          exact hb
        · refine ⟨false, ?_, ⟨fun h' => (Bool.false_ne_true h').elim, fun h' => absurd (by have := h'.2 (n - 1) (by omega); rwa [show n - 1 + 1 = n by omega] at this) h2⟩⟩
          refine ev_succ ?_
          simp only [impl_ascends.l0, impl_in_eq, Option.bind_some, e1, rd_nat]
          exact ev_pos (by omega) (ev_pos (by omega) (ev_pos (by omega) (ev_pos (by simpa using h) (ev_pos (by omega) (ev_pos (by omega) (ev_pos (by omega) (ev_pos (by omega) (Ev.now _))))))))
    · refine ⟨false, ?_, ⟨fun h' => (Bool.false_ne_true h').elim, fun h' => absurd (h'.1 n (by omega)) h⟩⟩
      refine ev_succ ?_
      simp only [impl_ascends.l0, impl_in_eq, Option.bind_some]
      exact ev_pos (by omega) (ev_pos (by omega) (ev_pos (by omega) (ev_neg (by rw [rd_nat]; simpa using h) (Ev.now _))))
theorem impl_asc_ev (l : List Int) (lo hi : Int) (hx : l.length ≤ 9223372036854775807) : ∃ b, Ev (fun k => impl_ascends.f k l lo hi) b ∧ (b = true ↔ AllIn l lo hi ∧ Rise l) := by
  unfold impl_ascends.f
  exact impl_asc_loop l lo hi hx l.length 0 (by omega) (fun m h => by omega) (fun m h => by omega)

theorem rdL_nat (l : List (List Int)) (n : Nat) : rd_L2 l (n : Int) = l.getD n [] := by
  unfold rd_L2
  rw [Int.toNat_natCast]
def Small (X Y : List Int) (G : List (List Int)) : Prop := X.length ≤ 1048576 ∧ Y.length ≤ 1048576 ∧ G.length ≤ 1048576 ∧ ∀ m, (G.getD m []).length ≤ 1048576
def RowsP (X : List Int) (G : List (List Int)) : Prop := ∀ m, m < G.length → (G.getD m []).length = X.length ∧ AllIn (G.getD m []) (-1000) 1000
def GridP (X Y : List Int) (G : List (List Int)) : Prop := (2 ≤ X.length ∧ X.length ≤ 20) ∧ (2 ≤ Y.length ∧ Y.length ≤ 20) ∧ Rise X ∧ Rise Y ∧ AllIn X (-1000) 1000 ∧ AllIn Y (-1000) 1000 ∧ G.length = Y.length ∧ RowsP X G
theorem impl_grid_loop {X Y : List Int} {G : List (List Int)} (h : Small X Y G) : ∀ (d n : Nat), n + d = G.length → (∀ m, m < n → (G.getD m []).length = X.length ∧ AllIn (G.getD m []) (-1000) 1000) → EvB (fun k => impl_GridOk.l0 k G (G.length : Int) (n : Int) X Y G) (GridP X Y G) := by
  obtain ⟨h1, h2, h3, h4⟩ := h
  intro d
  induction d with
  | zero =>
    intro n hn hm
    refine EvB.succ ?_
    simp only [impl_GridOk.l0]
    refine EvB.neg (by omega) ((EvB.bind (impl_in_evB _ _ _) (EvB.bind (impl_in_evB _ _ _) (EvB.ite (EvB.bind (impl_asc_ev X _ _ (by omega)) (EvB.last (impl_asc_ev Y _ _ (by omega))))))).iff ?_)
    have hR : RowsP X G := fun m h => hm m (by omega)
    unfold GridP
    constructor
    · rintro ⟨a1, a2, a3, ⟨a4, a5⟩, a6, a7⟩; exact ⟨by omega, by omega, a5, a7, a4, a6, by omega, hR⟩
    · rintro ⟨a1, a2, a3, a4, a5, a6, a7, a8⟩; exact ⟨by omega, by omega, by omega, ⟨a5, a3⟩, a6, a4⟩
  | succ d ih =>
    intro n hn hm
    refine EvB.succ ?_
    simp only [impl_GridOk.l0, rdL_nat]
    refine EvB.pos (by omega) (EvB.pos (by omega) (EvB.pos (by omega) ?_))
    by_cases hl : ((G.getD n []).length : Int) = (X.length : Int)
    · refine EvB.pos hl ?_
      obtain ⟨b, hb, ib⟩ := impl_all_ev (G.getD n []) (-1000) 1000 (Nat.le_trans (h4 n) (by omega))
      cases b with
      | false => exact ⟨false, Ev.bind hb (ev_neg (by decide) (Ev.now _)), ⟨fun e => (Bool.false_ne_true e).elim, fun e => absurd (ib.2 (e.2.2.2.2.2.2.2 n (by omega)).2) (by decide)⟩⟩
      | true =>
        obtain ⟨b', hb', ib'⟩ := ih (n + 1) (by omega) (fun m hm' => by
          by_cases e : m = n
          · subst e; exact ⟨by omega, ib.1 rfl⟩
          · exact hm m (by omega))
        refine ⟨b', Ev.bind hb (ev_pos rfl ?_), ib'⟩
        rw [w64_succ (m := G.length) (n := n) (by omega) (by omega)]
        exact hb'
    · exact EvB.neg hl (EvB.false_ (fun e => hl (by rw [(e.2.2.2.2.2.2.2 n (by omega)).1])))
theorem impl_grid_ev {X Y : List Int} {G : List (List Int)} (h : Small X Y G) : EvB (fun k => impl_GridOk.f k X Y G) (GridP X Y G) := by
  unfold impl_GridOk.f
  exact impl_grid_loop h G.length 0 (by omega) (fun m h => by omega)

theorem mul_bd {a b : Int} (A B : Int) (ha : -A ≤ a ∧ a ≤ A) (hb : -B ≤ b ∧ b ≤ B) : -(A * B) ≤ a * b ∧ a * b ≤ A * B := by
  have h : (a * b).natAbs ≤ A.natAbs * B.natAbs := by
    rw [Int.natAbs_mul]
    exact Nat.mul_le_mul (by omega) (by omega)
  have e : A * B = ((A.natAbs * B.natAbs : Nat) : Int) := by
    rw [Int.natCast_mul, Int.natAbs_of_nonneg (by omega), Int.natAbs_of_nonneg (by omega)]
  omega

theorem tmod_nat (a b : Nat) : Int.tmod (a : Int) (b : Int) = ((a % b : Nat) : Int) := rfl
theorem impl_gcd_loop : ∀ (m : Nat) (a b : Int), b.natAbs = m → a.natAbs ≤ 9223372036854775807 → b.natAbs ≤ 9223372036854775807 → Ev (fun k => impl_gcd.l0 k a b) ((Nat.gcd a.natAbs b.natAbs : Nat) : Int) := by
  intro m
  induction m using Nat.strongRecOn with
  | _ m ih =>
    intro a b hm ha hb
    refine ev_succ ?_
    simp only [impl_gcd.l0, impl_size.f, Option.bind_some]
    by_cases h0 : b = 0
    · subst h0
      rw [Int.natAbs_zero, Nat.gcd_zero_right]
      have e : mx a (wrap64 (-a)) = (a.natAbs : Int) := by
        rw [w64 (by omega) (by omega)]
        unfold mx
        split <;> omega
      rw [e]
      exact ev_pos (by trivial) (Ev.now _)
    · have e : (Int.tmod a b).natAbs = a.natAbs % b.natAbs := Int.natAbs_tmod a b
      have hlt : a.natAbs % b.natAbs < b.natAbs := Nat.mod_lt _ (by omega)
      have := ih (Int.tmod a b).natAbs (by omega) b (Int.tmod a b) rfl hb (by omega)
      rw [e] at this
      rw [Nat.gcd_comm a.natAbs b.natAbs, Nat.gcd_rec b.natAbs a.natAbs, Nat.gcd_comm]
      exact ev_neg h0 this
theorem frac_ev {n d : Int} (hn : -9223372036854775807 ≤ n ∧ n ≤ 9223372036854775807) (hd : 0 < d ∧ d ≤ 9223372036854775807) : Ev (fun k => impl_frac.f k n d) (wrap64 (Int.tdiv n ((Nat.gcd n.natAbs d.natAbs : Nat) : Int)), wrap64 (Int.tdiv d ((Nat.gcd n.natAbs d.natAbs : Nat) : Int))) := by
  have hg : Nat.gcd n.natAbs d.natAbs ≠ 0 := by
    intro h
    have := Nat.eq_zero_of_gcd_eq_zero_right h
    omega
  unfold impl_frac.f impl_gcd.f
  exact Ev.bind (impl_gcd_loop d.natAbs n d rfl (by omega) (by omega)) (ev_neg (by omega) (Ev.now _))
/-- a multiple of the denominator -/
theorem frac_mul {z d : Int} (hz : -1000000000 ≤ z ∧ z ≤ 1000000000) (hd : 0 < d ∧ d ≤ 1000000000) : Ev (fun k => impl_frac.f k (z * d) d) (z, 1) := by
  have m := mul_bd 1000000000 1000000000 hz (b := d) (by omega)
  have h := frac_ev (n := z * d) (d := d) (by omega) (by omega)
  have e : Nat.gcd (z * d).natAbs d.natAbs = d.natAbs := by rw [Int.natAbs_mul]; exact Nat.gcd_mul_left_left _ _
  have e2 : ((d.natAbs : Nat) : Int) = d := by omega
  rw [e, e2, Int.mul_tdiv_cancel _ (by omega), Int.tdiv_self (by omega), w64 (by omega) (by omega), w64 (by omega) (by omega)] at h
  exact h

theorem between_bd {a b c d x : Int} (ha : 0 < b - a ∧ b - a ≤ 2000) (hc : -1000 ≤ c ∧ c ≤ 1000) (hd : -1000 ≤ d ∧ d ≤ 1000) (hx : -2000 ≤ x - a ∧ x - a ≤ 2000) :
    wrap64 ((wrap64 (c * (wrap64 (b - a)))) + (wrap64 ((wrap64 (d - c)) * (wrap64 (x - a))))) = c * (b - a) + (d - c) * (x - a) ∧ -6000000 ≤ c * (b - a) + (d - c) * (x - a) ∧ c * (b - a) + (d - c) * (x - a) ≤ 6000000 := by
  have w1 : wrap64 (b - a) = b - a := w64 (by omega) (by omega)
  have w2 : wrap64 (d - c) = d - c := w64 (by omega) (by omega)
  have w3 : wrap64 (x - a) = x - a := w64 (by omega) (by omega)
  have m1 := mul_bd (a := c) (b := b - a) 1000 2000 hc (by omega)
  have m2 := mul_bd (a := d - c) (b := x - a) 2000 2000 (by omega) hx
  rw [w1, w2, w3]
  generalize c * (b - a) = p at *
  generalize (d - c) * (x - a) = q at *
  rw [w64 (x := p) (by omega) (by omega), w64 (x := q) (by omega) (by omega), w64 (x := p + q) (by omega) (by omega)]
  omega
theorem num_bd {A B h t : Int} (hA : -6000000 ≤ A ∧ A ≤ 6000000) (hB : -6000000 ≤ B ∧ B ≤ 6000000) (hh : -2000 ≤ h ∧ h ≤ 2000) (ht : -2000 ≤ t ∧ t ≤ 2000) :
    wrap64 ((wrap64 (A * h)) + (wrap64 ((wrap64 (B - A)) * t))) = A * h + (B - A) * t ∧ -9223372036854775807 ≤ A * h + (B - A) * t ∧ A * h + (B - A) * t ≤ 9223372036854775807 := by
  have w2 : wrap64 (B - A) = B - A := w64 (by omega) (by omega)
  have m1 := mul_bd (a := A) (b := h) 6000000 2000 hA hh
  have m2 := mul_bd (a := B - A) (b := t) 12000000 2000 (by omega) ht
  rw [w2]
  generalize A * h = p at *
  generalize (B - A) * t = q at *
  rw [w64 (x := p) (by omega) (by omega), w64 (x := q) (by omega) (by omega), w64 (x := p + q) (by omega) (by omega)]
  omega
def gA (X : List Int) (R : List Int) (i : Nat) (x : Int) : Int := R.getD i 0 * (X.getD (i + 1) 0 - X.getD i 0) + (R.getD (i + 1) 0 - R.getD i 0) * (x - X.getD i 0)
def gN (X Y : List Int) (G : List (List Int)) (i j : Nat) (x y : Int) : Int := gA X (G.getD j []) i x * (Y.getD (j + 1) 0 - Y.getD j 0) + (gA X (G.getD (j + 1) []) i x - gA X (G.getD j []) i x) * (y - Y.getD j 0)
def gD (X Y : List Int) (i j : Nat) : Int := (X.getD (i + 1) 0 - X.getD i 0) * (Y.getD (j + 1) 0 - Y.getD j 0)
theorem at_val {X Y : List Int} {G : List (List Int)} (hP : GridP X Y G) (x y : Int) (hx : -1000 ≤ x ∧ x ≤ 1000) (hy : -1000 ≤ y ∧ y ≤ 1000) {i j : Nat} (hi : i + 1 < X.length) (hj : j + 1 < Y.length) (p2 : Ev (fun k => impl_piece.f k X x) (i : Int)) (q2 : Ev (fun k => impl_piece.f k Y y) (j : Int)) {r : Int × Int} (f2 : Ev (fun k => impl_frac.f k (gN X Y G i j x y) (gD X Y i j)) r) : Ev (fun k => impl_AtGrid.j0 k x y false X Y G) (r.1, r.2, true) := by
  obtain ⟨hX, hY, rX, rY, aX, aY, hG, hR⟩ := hP
  have ei := w64_succ (m := X.length) (n := i) (by omega) (by omega)
  have ej := w64_succ (m := Y.length) (n := j) (by omega) (by omega)
  obtain ⟨l0, g0⟩ := hR j (by omega)
  obtain ⟨l1, g1⟩ := hR (j + 1) (by omega)
  have x0 := aX i (by omega)
  have x1 := aX (i + 1) (by omega)
  have xr := rX i (by omega)
  have y0 := aY j (by omega)
  have y1 := aY (j + 1) (by omega)
  have yr := rY j (by omega)
  have z00 := g0 i (by omega)
  have z01 := g0 (i + 1) (by omega)
  have z10 := g1 i (by omega)
  have z11 := g1 (i + 1) (by omega)
  have A := between_bd (a := X.getD i 0) (b := X.getD (i + 1) 0) (c := (G.getD j []).getD i 0) (d := (G.getD j []).getD (i + 1) 0) (x := x) (by omega) z00 z01 (by omega)
  have B := between_bd (a := X.getD i 0) (b := X.getD (i + 1) 0) (c := (G.getD (j + 1) []).getD i 0) (d := (G.getD (j + 1) []).getD (i + 1) 0) (x := x) (by omega) z10 z11 (by omega)
  have wx : wrap64 (X.getD (i + 1) 0 - X.getD i 0) = X.getD (i + 1) 0 - X.getD i 0 := w64 (by omega) (by omega)
  have wy : wrap64 (Y.getD (j + 1) 0 - Y.getD j 0) = Y.getD (j + 1) 0 - Y.getD j 0 := w64 (by omega) (by omega)
  have wt : wrap64 (y - Y.getD j 0) = y - Y.getD j 0 := w64 (by omega) (by omega)
  have N := num_bd (h := Y.getD (j + 1) 0 - Y.getD j 0) (t := y - Y.getD j 0) A.2 B.2 (by omega) (by omega)
  have D := mul_bd (a := X.getD (i + 1) 0 - X.getD i 0) (b := Y.getD (j + 1) 0 - Y.getD j 0) 2000 2000 (by omega) (by omega)
  have wd : wrap64 ((X.getD (i + 1) 0 - X.getD i 0) * (Y.getD (j + 1) 0 - Y.getD j 0)) = (X.getD (i + 1) 0 - X.getD i 0) * (Y.getD (j + 1) 0 - Y.getD j 0) := w64 (by omega) (by omega)
  simp only [gN, gA, gD] at f2
  have A1 := A.1
  have B1 := B.1
  have N1 := N.1
  rw [wx] at A1 B1
  have k0 := Int.natCast_nonneg i
  have k1 := Int.natCast_nonneg j
  have k2 : (i : Int) < (X.length : Int) := by omega
  have k3 : ((i + 1 : Nat) : Int) < (X.length : Int) := by omega
  have k4 : (j : Int) < (Y.length : Int) := by omega
  have k5 : ((j + 1 : Nat) : Int) < (Y.length : Int) := by omega
  have k6 : (j : Int) < (G.length : Int) := by omega
  have k7 : ((j + 1 : Nat) : Int) < (G.length : Int) := by omega
  have k8 : (i : Int) < ((G.getD j []).length : Int) := by omega
  have k9 : ((i + 1 : Nat) : Int) < ((G.getD j []).length : Int) := by omega
  have ka : (i : Int) < ((G.getD (j + 1) []).length : Int) := by omega
  have kb : ((i + 1 : Nat) : Int) < ((G.getD (j + 1) []).length : Int) := by omega
  have kc := Int.natCast_nonneg (i + 1)
  have kd := Int.natCast_nonneg (j + 1)
  refine ev_succ ?_
  simp only [impl_AtGrid.j0]
  refine ev_neg (by decide) (Ev.bind p2 (Ev.bind q2 ?_))
  simp only [ei, ej, rd_nat, rdL_nat, impl_between.f, Option.bind_some, wx, wy, wt, A1, B1, N1, wd]
  exact ev_pos k0 (ev_pos k2 (ev_pos kc (ev_pos k3 (ev_pos k1 (ev_pos k6 (ev_pos k8 (ev_pos k9 (ev_pos kd (ev_pos k7 (ev_pos ka (ev_pos kb (ev_pos k4 (ev_pos k5 (Ev.bind f2 (Ev.now _)))))))))))))))
theorem end_nat {T : List Int} (h : 1 ≤ T.length) (h' : T.length ≤ 1048576) : wrap64 ((T.length : Int) - 1) = ((T.length - 1 : Nat) : Int) := by
  rw [w64 (by omega) (by omega)]
  omega
/-- inside the grid -/
theorem atgrid_in {X Y : List Int} {G : List (List Int)} (h : Small X Y G) (hP : GridP X Y G) (x y : Int) (hx : X.getD 0 0 ≤ x ∧ x ≤ X.getD (X.length - 1) 0) (hy : Y.getD 0 0 ≤ y ∧ y ≤ Y.getD (Y.length - 1) 0) {i j : Nat} (hi : i + 1 < X.length) (hj : j + 1 < Y.length) (p2 : Ev (fun k => impl_piece.f k X x) (i : Int)) (q2 : Ev (fun k => impl_piece.f k Y y) (j : Int)) {r : Int × Int} (f2 : Ev (fun k => impl_frac.f k (gN X Y G i j x y) (gD X Y i j)) r) : Ev (fun k => impl_AtGrid.f k X Y G x y) (r.1, r.2, true) := by
  obtain ⟨b, hc, ib⟩ := impl_grid_ev h
  obtain rfl : b = true := ib.2 hP
  have hv := at_val hP x y
  obtain ⟨hX, hY, rX, rY, aX, aY, hG, hR⟩ := hP
  unfold impl_AtGrid.f
  have eX := end_nat (T := X) (by omega) (by omega)
  have eY := end_nat (T := Y) (by omega) (by omega)
  have zX : rd X 0 = X.getD 0 0 := rd_nat X 0
  have zY : rd Y 0 = Y.getD 0 0 := rd_nat Y 0
  have a1 := aX 0 (by omega)
  have a2 := aX (X.length - 1) (by omega)
  have b1 := aY 0 (by omega)
  have b2 := aY (Y.length - 1) (by omega)
  have k1 : (0 : Int) < (X.length : Int) := by omega
  have k2 : 0 ≤ ((X.length - 1 : Nat) : Int) := by omega
  have k3 : ((X.length - 1 : Nat) : Int) < (X.length : Int) := by omega
  have k4 : (0 : Int) < (Y.length : Int) := by omega
  have k5 : 0 ≤ ((Y.length - 1 : Nat) : Int) := by omega
  have k6 : ((Y.length - 1 : Nat) : Int) < (Y.length : Int) := by omega
  have r2 := hv (by omega) (by omega) hi hj p2 q2 f2
  simp only [eX, eY, rd_nat, zX, zY, impl_in_eq, Option.bind_some]
  simp only [decide_eq_true hx, decide_eq_true hy]
  exact Ev.bind hc (ev_pos rfl (ev_pos k1 (ev_pos k2 (ev_pos k3 (ev_pos (by trivial) (ev_pos k4 (ev_pos k5 (ev_pos k6 r2))))))))
/-- left of the grid -/
theorem atgrid_out {X Y : List Int} {G : List (List Int)} (h : Small X Y G) (hP : GridP X Y G) (x y : Int) (hx : x < X.getD 0 0) : Ev (fun k => impl_AtGrid.f k X Y G x y) (0, 0, false) := by
  have n2 : Ev (fun k => impl_AtGrid.j0 k x y true X Y G) (0, 0, false) := by
    refine ev_succ ?_
    simp only [impl_AtGrid.j0]
    exact ev_pos (by trivial) (Ev.now _)
  obtain ⟨b, hc, ib⟩ := impl_grid_ev h
  obtain rfl : b = true := ib.2 hP
  obtain ⟨hX, hY, rX, rY, aX, aY, hG, hR⟩ := hP
  unfold impl_AtGrid.f
  have eX := end_nat (T := X) (by omega) (by omega)
  have zX : rd X 0 = X.getD 0 0 := rd_nat X 0
  have k1 : (0 : Int) < (X.length : Int) := by omega
  have k2 : 0 ≤ ((X.length - 1 : Nat) : Int) := by omega
  have k3 : ((X.length - 1 : Nat) : Int) < (X.length : Int) := by omega
  have hx' : ¬ (X.getD 0 0 ≤ x ∧ x ≤ X.getD (X.length - 1) 0) := fun h => by omega
  simp only [eX, rd_nat, zX, impl_in_eq, Option.bind_some]
  simp only [decide_eq_false hx']
  exact Ev.bind hc (ev_pos rfl (ev_pos k1 (ev_pos k2 (ev_pos k3 (ev_neg (by decide) n2)))))

theorem at_ev {l : List Int} (h : ∀ x ∈ l, 0 ≤ x ∧ x ≤ 255) (hl : l.length ≤ 1048576) (i : Int) (h0 : 0 ≤ i) (h1 : i ≤ 1000000) : ∃ v, laws_at.f l i = some v ∧ 0 ≤ v ∧ v ≤ 255 := by
  unfold laws_at.f
  by_cases hi : i < (l.length : Int)
  · rw [if_pos hi, if_pos h0]
    have := u8_bounds h i.toNat
    refine ⟨_, rfl, ?_⟩
    unfold rd
    rw [w64 (by omega) (by omega)]
    exact this
  · rw [if_neg hi]
    refine ⟨_, rfl, ?_⟩
    rw [w64 (x := i * 7) (by omega) (by omega), w64 (by omega) (by omega), Int.tmod_eq_emod_of_nonneg (by omega)]
    omega

theorem big_ev {l : List Int} (h : l.length ≤ 1048576) : laws_big.f l = some false := by
  unfold laws_big.f
  rw [decide_eq_false (by omega)]
theorem big_big {l : List Int} (h : ¬ l.length ≤ 1048576) : laws_big.f l = some true := by
  unfold laws_big.f
  rw [decide_eq_true (by omega)]

def gr (a b c d e f : Int) : List (List Int) := [[a, b], [c, d], [e, f]]
def Bd (a : Int) : Prop := -128 ≤ a ∧ a ≤ 127
theorem small_gr (w a b c d e f : Int) : Small [0, w] [-2, 4, 9] (gr a b c d e f) := by
  refine ⟨by simp, by simp, by simp [gr], fun m => ?_⟩
  match m with
  | 0 => simp [gr]
  | 1 => simp [gr]
  | 2 => simp [gr]
  | n + 3 => simp [gr]
theorem all_two {a b : Int} (ha : Bd a) (hb : Bd b) : AllIn [a, b] (-1000) 1000 := by
  intro n hn
  unfold Bd at ha hb
  match n with
  | 0 => exact ⟨by show _ ≤ a; omega, by show a ≤ _; omega⟩
  | 1 => exact ⟨by show _ ≤ b; omega, by show b ≤ _; omega⟩
  | n + 2 => (simp only [List.length_cons, List.length_nil] at hn; omega)
theorem gridP_gr {w a b c d e f : Int} (hw : 3 ≤ w ∧ w ≤ 7) (ha : Bd a) (hb : Bd b) (hc : Bd c) (hd : Bd d) (he : Bd e) (hf : Bd f) : GridP [0, w] [-2, 4, 9] (gr a b c d e f) := by
  refine ⟨by simp, by simp, ?_, ?_, ?_, ?_, rfl, ?_⟩
  · intro n hn
    match n with
    | 0 => show (0 : Int) < w; omega
    | n + 1 => (simp only [List.length_cons, List.length_nil] at hn; omega)
  · intro n hn
    match n with
    | 0 => decide
    | 1 => decide
    | n + 2 => (simp only [List.length_cons, List.length_nil] at hn; omega)
  · exact all_two (a := 0) (b := w) ⟨by decide, by decide⟩ ⟨by omega, by omega⟩
  · intro n hn
    match n with
    | 0 => decide
    | 1 => decide
    | 2 => decide
    | n + 3 => (simp only [List.length_cons, List.length_nil] at hn; omega)
  · intro m hm
    match m with
    | 0 => exact ⟨rfl, all_two ha hb⟩
    | 1 => exact ⟨rfl, all_two hc hd⟩
    | 2 => exact ⟨rfl, all_two he hf⟩
    | n + 3 => (simp only [gr, List.length_cons, List.length_nil] at hm; omega)
theorem z01 : wrap64 ((0 : Int) + 1) = 1 := by rw [w64 (by omega) (by omega)]; rfl
theorem z02 : wrap64 ((0 : Int) + 2) = 2 := by rw [w64 (by omega) (by omega)]; rfl
theorem z11 : wrap64 ((1 : Int) + 1) = 2 := by rw [w64 (by omega) (by omega)]; rfl
theorem z12 : wrap64 ((1 : Int) + 2) = 3 := by rw [w64 (by omega) (by omega)]; rfl
theorem z21 : wrap64 ((2 : Int) + 1) = 3 := by rw [w64 (by omega) (by omega)]; rfl
theorem len3 : (([-2, 4, 9] : List Int).length : Int) = 3 := rfl
theorem len2 (w : Int) : (([0, w] : List Int).length : Int) = 2 := rfl
theorem piece_two (w x : Int) : Ev (fun k => impl_piece.f k [0, w] x) ((0 : Nat) : Int) := by
  unfold impl_piece.f
  refine ev_succ ?_
  simp only [impl_piece.l0, z02, len2]
  exact ev_neg (by decide) (Ev.now _)
theorem piece_low {y : Int} (h : y < 4) : Ev (fun k => impl_piece.f k [-2, 4, 9] y) ((0 : Nat) : Int) := by
  unfold impl_piece.f
  refine ev_succ ?_
  simp only [impl_piece.l0, z01, z02, len3]
  exact ev_pos (by decide) (ev_pos (by decide) (ev_pos (by decide) (ev_neg (by show ¬ ((4 : Int) ≤ y); omega) (Ev.now _))))
theorem piece_high {y : Int} (h : 4 ≤ y) : Ev (fun k => impl_piece.f k [-2, 4, 9] y) ((1 : Nat) : Int) := by
  unfold impl_piece.f
  refine ev_succ ?_
  simp only [impl_piece.l0, z01, z02, len3]
  refine ev_pos (by decide) (ev_pos (by decide) (ev_pos (by decide) (ev_pos (by show (4 : Int) ≤ y; omega) (ev_succ ?_))))
  simp only [impl_piece.l0, z12, len3]
  exact ev_neg (by decide) (Ev.now _)
/-- what a grid tells, if its number is a multiple of the denominator -/
theorem at_low {w a b c d e f x y z : Int} (hw : 3 ≤ w ∧ w ≤ 7) (ha : Bd a) (hb : Bd b) (hc : Bd c) (hd : Bd d) (he : Bd e) (hf : Bd f) (hx : 0 ≤ x ∧ x ≤ w) (hy : -2 ≤ y ∧ y < 4) (hz : -1000 ≤ z ∧ z ≤ 1000)
    (h : (a * w + (b - a) * x) * 6 + ((c * w + (d - c) * x) - (a * w + (b - a) * x)) * (y + 2) = z * (w * 6)) : Ev (fun k => impl_AtGrid.f k [0, w] [-2, 4, 9] (gr a b c d e f) x y) (z, 1, true) := by
  have q := atgrid_in (i := 0) (j := 0) (r := (z, 1)) (small_gr w a b c d e f) (gridP_gr hw ha hb hc hd he hf) x y hx (by show (-2 : Int) ≤ y ∧ y ≤ 9; omega) (by simp) (by simp) (piece_two w x) (piece_low hy.2)
  refine q ?_
  have e1 : gN [0, w] [-2, 4, 9] (gr a b c d e f) 0 0 x y = (a * w + (b - a) * x) * 6 + ((c * w + (d - c) * x) - (a * w + (b - a) * x)) * (y + 2) := by
    show (a * (w - 0) + (b - a) * (x - 0)) * (4 - -2) + ((c * (w - 0) + (d - c) * (x - 0)) - (a * (w - 0) + (b - a) * (x - 0))) * (y - -2) = _
    simp only [Int.sub_zero, Int.sub_neg]
    rfl
  have e2 : gD [0, w] [-2, 4, 9] 0 0 = w * 6 := by
    show (w - 0) * (4 - -2) = w * 6
    rw [Int.sub_zero]; rfl
  rw [e1, e2, h]
  exact frac_mul (by omega) (by omega)
theorem at_high {w a b c d e f x y z : Int} (hw : 3 ≤ w ∧ w ≤ 7) (ha : Bd a) (hb : Bd b) (hc : Bd c) (hd : Bd d) (he : Bd e) (hf : Bd f) (hx : 0 ≤ x ∧ x ≤ w) (hy : 4 ≤ y ∧ y ≤ 9) (hz : -1000 ≤ z ∧ z ≤ 1000)
    (h : (c * w + (d - c) * x) * 5 + ((e * w + (f - e) * x) - (c * w + (d - c) * x)) * (y - 4) = z * (w * 5)) : Ev (fun k => impl_AtGrid.f k [0, w] [-2, 4, 9] (gr a b c d e f) x y) (z, 1, true) := by
  have q := atgrid_in (i := 0) (j := 1) (r := (z, 1)) (small_gr w a b c d e f) (gridP_gr hw ha hb hc hd he hf) x y hx (by show (-2 : Int) ≤ y ∧ y ≤ 9; omega) (by simp) (by simp) (piece_two w x) (piece_high hy.1)
  refine q ?_
  have e1 : gN [0, w] [-2, 4, 9] (gr a b c d e f) 0 1 x y = (c * w + (d - c) * x) * 5 + ((e * w + (f - e) * x) - (c * w + (d - c) * x)) * (y - 4) := by
    show (c * (w - 0) + (d - c) * (x - 0)) * (9 - 4) + ((e * (w - 0) + (f - e) * (x - 0)) - (c * (w - 0) + (d - c) * (x - 0))) * (y - 4) = _
    simp only [Int.sub_zero]
    rfl
  have e2 : gD [0, w] [-2, 4, 9] 0 1 = w * 5 := by
    show (w - 0) * (9 - 4) = w * 5
    rw [Int.sub_zero]; rfl
  rw [e1, e2, h]
  exact frac_mul (by omega) (by omega)
theorem flat_at {w x y : Int} (hw : 3 ≤ w ∧ w ≤ 7) (hx : 0 ≤ x ∧ x ≤ w) (hy : -2 ≤ y ∧ y ≤ 9) : Ev (fun k => impl_AtGrid.f k [0, w] [-2, 4, 9] (gr 7 7 7 7 7 7) x y) (7, 1, true) := by
  have h7 : Bd 7 := ⟨by decide, by decide⟩
  by_cases h : y < 4
  · exact at_low hw h7 h7 h7 h7 h7 h7 hx ⟨hy.1, h⟩ (by omega) (by simp; omega)
  · exact at_high hw h7 h7 h7 h7 h7 h7 hx ⟨by omega, hy.2⟩ (by omega) (by simp; omega)
section
variable {l : List Int} {w a b c d e f : Int} (hw : 3 ≤ w ∧ w ≤ 7) (ha : Bd a) (hb : Bd b) (hc : Bd c) (hd : Bd d) (he : Bd e) (hf : Bd f)
theorem row_round (i : Int) (h0 : 0 ≤ i) (h3 : i < 3) (hl : (rd_L2 (gr a b c d e f) i).length = 2)
    (hq : ∀ n : Int, (n = 0 ∨ n = 1) → Ev (fun k => impl_AtGrid.f k [0, w] [-2, 4, 9] (gr a b c d e f) (rd [0, w] n) (rd [-2, 4, 9] i)) (rd (rd_L2 (gr a b c d e f) i) n, 1, true))
    (h : Ev (fun k => laws_FnGrid.l1 k l (i + 1) [0, w] [-2, 4, 9] (gr a b c d e f) [0, w] [-2, 4, 9] (gr 7 7 7 7 7 7)) true) :
    Ev (fun k => laws_FnGrid.l2 k l i 0 [0, w] [-2, 4, 9] (gr a b c d e f) [0, w] [-2, 4, 9] (gr 7 7 7 7 7 7)) true := by
  have z1 := z01
  have z2 := z11
  have zi : wrap64 (i + 1) = i + 1 := w64 (by omega) (by omega)
  have one : ∀ n : Int, (n = 0 ∨ n = 1) → Ev (fun k => laws_FnGrid.l2 k l i (wrap64 (n + 1)) [0, w] [-2, 4, 9] (gr a b c d e f) [0, w] [-2, 4, 9] (gr 7 7 7 7 7 7)) true → Ev (fun k => laws_FnGrid.l2 k l i n [0, w] [-2, 4, 9] (gr a b c d e f) [0, w] [-2, 4, 9] (gr 7 7 7 7 7 7)) true := by
    intro n hn hk
    have hn' : 0 ≤ n ∧ n < 2 := by omega
    refine ev_succ ?_
    simp only [laws_FnGrid.l2]
    refine ev_pos (by omega) (ev_pos (by omega) (ev_pos (by simp; omega) (ev_pos h0 (ev_pos (by simp; omega) (Ev.bind (hq n hn) (ev_pos (by trivial) (ev_pos (by trivial) (ev_pos (by simp [gr]; omega) (ev_pos (by rw [hl]; omega) (ev_succ ?_))))))))))
    simp only [laws_FnGrid.j3]
    exact ev_neg (by simp) hk
  refine one 0 (.inl rfl) ?_
  rw [z1]
  refine one 1 (.inr rfl) ?_
  rw [z2]
  refine ev_succ ?_
  simp only [laws_FnGrid.l2]
  refine ev_neg (by decide) ?_
  rw [zi]
  exact h
end
theorem two_forms {P : Int → Prop} (h0 : P 0) (h1 : P 1) : ∀ n : Int, (n = 0 ∨ n = 1) → P n := by
  rintro n (rfl | rfl)
  · exact h0
  · exact h1
theorem FnGrid : laws_FnGrid.PureR := by
  intro l ⟨_, hu⟩
  refine Ev.rounds ?_
  unfold laws_FnGrid.f
  by_cases hL : l.length ≤ 1048576
  rotate_left
  · rw [big_big hL]
    exact Ev.now _
  rw [big_ev hL]
  simp only [Option.bind_some]
  refine ev_neg (by decide) ?_
  obtain ⟨v0, e0, b0⟩ := at_ev hu hL 0 (by omega) (by omega)
  obtain ⟨v1, e1, b1⟩ := at_ev hu hL 1 (by omega) (by omega)
  obtain ⟨v2, e2, b2⟩ := at_ev hu hL 2 (by omega) (by omega)
  obtain ⟨v3, e3, b3⟩ := at_ev hu hL 3 (by omega) (by omega)
  obtain ⟨v4, e4, b4⟩ := at_ev hu hL 4 (by omega) (by omega)
  obtain ⟨v5, e5, b5⟩ := at_ev hu hL 5 (by omega) (by omega)
  obtain ⟨v6, e6, b6⟩ := at_ev hu hL 6 (by omega) (by omega)
  obtain ⟨v9, e9, b9⟩ := at_ev hu hL 9 (by omega) (by omega)
  obtain ⟨vt, et, bt⟩ := at_ev hu hL 10 (by omega) (by omega)
  rw [e0]
  simp only [Option.bind_some]
  have m5 : Int.tmod v0 5 = v0 % 5 := Int.tmod_eq_emod_of_nonneg b0.1
  have hw : 3 ≤ wrap64 (3 + Int.tmod v0 5) ∧ wrap64 (3 + Int.tmod v0 5) ≤ 7 := by rw [m5, w64 (by omega) (by omega)]; omega
  generalize wrap64 (3 + Int.tmod v0 5) = w at hw
  have c1 : wrap64 (v1 - 128) = v1 - 128 := w64 (by omega) (by omega)
  have c2 : wrap64 (v2 - 128) = v2 - 128 := w64 (by omega) (by omega)
  have c3 : wrap64 (v3 - 128) = v3 - 128 := w64 (by omega) (by omega)
  have c4 : wrap64 (v4 - 128) = v4 - 128 := w64 (by omega) (by omega)
  have c5 : wrap64 (v5 - 128) = v5 - 128 := w64 (by omega) (by omega)
  have c6 : wrap64 (v6 - 128) = v6 - 128 := w64 (by omega) (by omega)
  have a1 : Bd (v1 - 128) := ⟨by omega, by omega⟩
  have a2 : Bd (v2 - 128) := ⟨by omega, by omega⟩
  have a3 : Bd (v3 - 128) := ⟨by omega, by omega⟩
  have a4 : Bd (v4 - 128) := ⟨by omega, by omega⟩
  have a5 : Bd (v5 - 128) := ⟨by omega, by omega⟩
  have a6 : Bd (v6 - 128) := ⟨by omega, by omega⟩
  have i1 : wrap64 ((wrap64 (2 * 0)) + 1) = 1 := by rw [w64 (x := 2 * 0) (by omega) (by omega), w64 (by omega) (by omega)]; rfl
  have i2 : wrap64 ((wrap64 (2 * 0)) + 2) = 2 := by rw [w64 (x := 2 * 0) (by omega) (by omega), w64 (by omega) (by omega)]; rfl
  have i3 : wrap64 ((wrap64 (2 * 1)) + 1) = 3 := by rw [w64 (x := 2 * 1) (by omega) (by omega), w64 (by omega) (by omega)]; rfl
  have i4 : wrap64 ((wrap64 (2 * 1)) + 2) = 4 := by rw [w64 (x := 2 * 1) (by omega) (by omega), w64 (by omega) (by omega)]; rfl
  have i5 : wrap64 ((wrap64 (2 * 2)) + 1) = 5 := by rw [w64 (x := 2 * 2) (by omega) (by omega), w64 (by omega) (by omega)]; rfl
  have i6 : wrap64 ((wrap64 (2 * 2)) + 2) = 6 := by rw [w64 (x := 2 * 2) (by omega) (by omega), w64 (by omega) (by omega)]; rfl
  have s1 := z01
  have s2 := z11
  have s3 := z21
  refine ev_succ ?_
  simp only [laws_FnGrid.l0, i1, i2, e1, e2, c1, c2, s1, Option.bind_some, List.nil_append]
  refine ev_pos (by decide) (ev_pos (by simp) (ev_pos (by simp) (ev_succ ?_)))
  simp only [laws_FnGrid.l0, i3, i4, e3, e4, c3, c4, s2, Option.bind_some, List.cons_append, List.nil_append]
  refine ev_pos (by decide) (ev_pos (by simp) (ev_pos (by simp) (ev_succ ?_)))
  simp only [laws_FnGrid.l0, i5, i6, e5, e6, c5, c6, s3, Option.bind_some, List.cons_append, List.nil_append]
  refine ev_pos (by decide) (ev_pos (by simp) (ev_pos (by simp) (ev_succ ?_)))
  simp only [laws_FnGrid.l0]
  refine ev_neg (by decide) ?_
  generalize v1 - 128 = a at *
  generalize v2 - 128 = b at *
  generalize v3 - 128 = c at *
  generalize v4 - 128 = d at *
  generalize v5 - 128 = e at *
  generalize v6 - 128 = f at *
  show Ev (fun k => laws_FnGrid.l1 k l 0 [0, w] [-2, 4, 9] (gr a b c d e f) [0, w] [-2, 4, 9] (gr 7 7 7 7 7 7)) true
  have w0 : 0 ≤ w ∧ w ≤ w := by omega
  have z0 : (0 : Int) ≤ 0 ∧ 0 ≤ w := by omega
  have step : ∀ i : Int, 0 ≤ i → i < 3 → Ev (fun k => laws_FnGrid.l2 k l i 0 [0, w] [-2, 4, 9] (gr a b c d e f) [0, w] [-2, 4, 9] (gr 7 7 7 7 7 7)) true → Ev (fun k => laws_FnGrid.l1 k l i [0, w] [-2, 4, 9] (gr a b c d e f) [0, w] [-2, 4, 9] (gr 7 7 7 7 7 7)) true := by
    intro i h0 h3 h
    refine ev_succ ?_
    simp only [laws_FnGrid.l1]
    exact ev_pos (by omega) h
  unfold Bd at a1 a2 a3 a4 a5 a6
  refine step 0 (by omega) (by omega) (row_round 0 (by omega) (by omega) rfl (two_forms ?_ ?_) (step 1 (by omega) (by omega) (row_round 1 (by omega) (by omega) rfl (two_forms ?_ ?_) (step 2 (by omega) (by omega) (row_round 2 (by omega) (by omega) rfl (two_forms ?_ ?_) ?_)))))
  · exact at_low (x := 0) (y := -2) (z := a) hw a1 a2 a3 a4 a5 a6 z0 (by omega) (by omega) (by grind)
  · exact at_low (x := w) (y := -2) (z := b) hw a1 a2 a3 a4 a5 a6 w0 (by omega) (by omega) (by grind)
  · exact at_high (x := 0) (y := 4) (z := c) hw a1 a2 a3 a4 a5 a6 z0 (by omega) (by omega) (by grind)
  · exact at_high (x := w) (y := 4) (z := d) hw a1 a2 a3 a4 a5 a6 w0 (by omega) (by omega) (by grind)
  · exact at_high (x := 0) (y := 9) (z := e) hw a1 a2 a3 a4 a5 a6 z0 (by omega) (by omega) (by grind)
  · exact at_high (x := w) (y := 9) (z := f) hw a1 a2 a3 a4 a5 a6 w0 (by omega) (by omega) (by grind)
  · refine ev_succ ?_
    simp only [laws_FnGrid.l1, e9, et, Option.bind_some]
    have m4 : Int.tmod v9 4 = v9 % 4 := Int.tmod_eq_emod_of_nonneg b9.1
    have m12 : Int.tmod vt 12 = vt % 12 := Int.tmod_eq_emod_of_nonneg bt.1
    rw [m4, m12, w64 (x := vt % 12 - 2) (by omega) (by omega)]
    obtain ⟨g, hg, ig⟩ := impl_grid_ev (small_gr w a b c d e f)
    obtain rfl : g = true := ig.2 (gridP_gr hw a1 a2 a3 a4 a5 a6)
    have h4 : Ev (fun k => laws_FnGrid.j4 k true) true := by
      refine ev_succ ?_
      simp only [laws_FnGrid.j4]
      exact Ev.now _
    refine ev_neg (by decide) (Ev.bind (flat_at hw (by omega) (by omega)) (Ev.bind (atgrid_out (small_gr w a b c d e f) (gridP_gr hw a1 a2 a3 a4 a5 a6) (-1) 0 (by show (-1 : Int) < 0; decide)) ?_))
    exact ev_pos (by trivial) (ev_pos (by trivial) (ev_pos (by trivial) (ev_neg (by decide) (Ev.bind hg h4))))

end Go.Proofs.Ytkginilghcepbaa.Pure
