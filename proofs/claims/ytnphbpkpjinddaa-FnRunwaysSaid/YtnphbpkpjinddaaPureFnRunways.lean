/- Proved here: on a drawn runner and runway the program's Decide agrees with the reference's, its two speeds keep the runway, and a longer runway widens them; no condition. -/
import Derived.Test.YtnphbpkpjinddaaPureDefFnRunways
namespace Go.Proofs.Ytnphbpkpjinddaa.Pure
open Go.RowKit Go.Proofs.Ytnphbpkpjinddaa.QFnRunways Go.Proofs.YtnphbpkpjinddaaW.PrintWords Go.Proofs.YtnphbpkpjinddaaW.PrintLast Go.Proofs.YtnphbpkpjinddaaW.PrintMore
set_option linter.unusedVariables false
set_option linter.unusedSimpArgs false

theorem ev_pos {c : Prop} [Decidable c] {α : Type} {A B : Nat → Option α} {r : α} (h : c) (k : Ev A r) : Ev (fun n => if c then A n else B n) r := by
  simpa only [if_pos h] using k
theorem ev_neg {c : Prop} [Decidable c] {α : Type} {A B : Nat → Option α} {r : α} (h : ¬ c) (k : Ev B r) : Ev (fun n => if c then A n else B n) r := by
  simpa only [if_neg h] using k
theorem ev_succ {α : Type} {g : Nat → Option α} {r : α} (h : Ev (fun k => g (k + 1)) r) : Ev g r := Ev.step (fun _ => rfl) h
theorem ex_succ {α : Type} {g : Nat → Option α} (h : ∃ r, Ev (fun k => g (k + 1)) r) : ∃ r, Ev g r := by
  obtain ⟨r, h⟩ := h
  exact ⟨r, ev_succ h⟩
theorem ev_one {α : Type} {g : Nat → Option α} {r q : α} (h : Ev g r) (h' : Ev g q) : r = q := by
  obtain ⟨K, hK⟩ := h
  obtain ⟨L, hL⟩ := h'
  have a := hK (max K L) (Nat.le_max_left _ _)
  have b := hL (max K L) (Nat.le_max_right _ _)
  exact Option.some.inj (a.symm.trans b)
theorem ev_bool {α : Type} {A B : Nat → Option α} {r : α} (b : Bool) (h1 : b = true → Ev A r) (h2 : b = false → Ev B r) : Ev (fun n => if b = true then A n else B n) r := by
  cases b with
  | true => exact ev_pos (by trivial) (h1 rfl)
  | false => exact ev_neg (by decide) (h2 rfl)
theorem bool_eq_of_iff {a b : Bool} {p : Prop} (h : a = true ↔ p) (h' : b = true ↔ p) : a = b := by
  rw [Bool.eq_iff_iff]
  exact h.trans h'.symm
theorem w64 {x : Int} (h0 : -9223372036854775808 ≤ x) (h1 : x ≤ 9223372036854775807) : wrap64 x = x := by
  unfold wrap64
  omega
theorem w64_succ {n m : Nat} (h : n < m) (hm : m ≤ 9223372036854775807) : wrap64 ((n : Int) + 1) = ((n + 1 : Nat) : Int) := by
  unfold wrap64
  omega
theorem rd_nat (l : List Int) (n : Nat) : rd l (n : Int) = l.getD n 0 := by
  unfold rd
  rw [Int.toNat_natCast]
theorem take_set_succ {α : Type} (d : α) {x0 x3 : List α} {n : Nat} (h : n < x0.length) (hl : x3.length = x0.length) (ht : x3.take n = x0.take n) : (x3.set n (x0.getD n d)).take (n + 1) = x0.take (n + 1) := by
  apply List.ext_getElem?
  intro i
  simp only [List.getElem?_take, List.getElem?_set]
  by_cases hi : i < n + 1
  · rw [if_pos hi, if_pos hi]
    by_cases he : n = i
    · subst he
      rw [if_pos rfl, if_pos (by omega), List.getD_eq_getElem?_getD, List.getElem?_eq_getElem h]
      rfl
    · rw [if_neg he]
      have := congrArg (fun l => l[i]?) ht
      simpa only [List.getElem?_take, if_pos (show i < n by omega)] using this
  · rw [if_neg hi, if_neg hi]
theorem u8_bounds {l : List Int} (h : ∀ x ∈ l, 0 ≤ x ∧ x ≤ 255) (n : Nat) : 0 ≤ l.getD n 0 ∧ l.getD n 0 ≤ 255 := by
  rw [List.getD_eq_getElem?_getD]
  cases e : l[n]? with
  | none => simp
  | some x =>
    exact h x (List.mem_of_getElem? e)
theorem getD_map {α β : Type} (c : α → β) (l : List α) (n : Nat) (d : α) : (l.map c).getD n (c d) = c (l.getD n d) := by
  simp only [List.getD_eq_getElem?_getD, List.getElem?_map]
  cases l[n]? <;> rfl
/-- It ends, with true just where p holds. -/
def EvB (g : Nat → Option Bool) (p : Prop) : Prop := ∃ b, Ev g b ∧ (b = true ↔ p)
theorem EvB.iff {g : Nat → Option Bool} {p q : Prop} (h : EvB g p) (h' : p ↔ q) : EvB g q := by
  obtain ⟨b, hb, ib⟩ := h
  exact ⟨b, hb, ib.trans h'⟩
theorem EvB.dec {c : Prop} [Decidable c] : EvB (fun _ => some (decide c)) c := ⟨decide c, Ev.now _, decide_eq_true_iff⟩
theorem EvB.ite {c : Prop} [Decidable c] {A : Nat → Option Bool} {p : Prop} (h : EvB A p) : EvB (fun n => if c then A n else some false) (c ∧ p) := by
  obtain ⟨b, hb, ib⟩ := h
  by_cases hc : c
  · exact ⟨b, ev_pos hc hb, ⟨fun h => ⟨hc, ib.1 h⟩, fun h => ib.2 h.2⟩⟩
  · exact ⟨false, ev_neg hc (Ev.now _), ⟨fun h => (Bool.false_ne_true h).elim, fun h => absurd h.1 hc⟩⟩
theorem EvB.ite_not {c : Prop} [Decidable c] {A : Nat → Option Bool} {p : Prop} (h : EvB A p) : EvB (fun n => if c then some false else A n) (¬ c ∧ p) := by
  obtain ⟨b, hb, ib⟩ := h
  by_cases hc : c
  · exact ⟨false, ev_pos hc (Ev.now _), ⟨fun h => (Bool.false_ne_true h).elim, fun h => absurd hc h.1⟩⟩
  · exact ⟨b, ev_neg hc hb, ⟨fun h => ⟨hc, ib.1 h⟩, fun h => ib.2 h.2⟩⟩
theorem EvB.bind {g A : Nat → Option Bool} {p q : Prop} (h : EvB g p) (h' : EvB A q) : EvB (fun n => (g n).bind fun t => if t = true then A n else some false) (p ∧ q) := by
  obtain ⟨b, hb, ib⟩ := h
  obtain ⟨c, hc, ic⟩ := h'
  cases b with
  | true => exact ⟨c, Ev.bind hb (ev_pos rfl hc), ⟨fun h => ⟨ib.1 rfl, ic.1 h⟩, fun h => ic.2 h.2⟩⟩
  | false => exact ⟨false, Ev.bind hb (ev_neg (by decide) (Ev.now _)), ⟨fun h => (Bool.false_ne_true h).elim, fun h => absurd (ib.2 h.1) (by decide)⟩⟩
theorem EvB.last {g : Nat → Option Bool} {p : Prop} (h : EvB g p) : EvB (fun n => (g n).bind fun t => some t) p := by
  obtain ⟨b, hb, ib⟩ := h
  exact ⟨b, Ev.bind hb (Ev.now _), ib⟩
theorem EvB.same {g g' : Nat → Option Bool} {p : Prop} (h : EvB g p) (h' : EvB g' p) : ∃ b, Ev g b ∧ Ev g' b ∧ (b = true ↔ p) := by
  obtain ⟨b, hb, ib⟩ := h
  obtain ⟨c, hc, ic⟩ := h'
  obtain rfl : c = b := bool_eq_of_iff ic ib
  exact ⟨c, hb, hc, ib⟩
theorem EvB.bindE {g A B : Nat → Option Bool} {p q : Prop} (hB : Ev B false) (h : EvB g p) (h' : EvB A q) : EvB (fun n => (g n).bind fun t => if t = true then A n else B n) (p ∧ q) := by
  obtain ⟨b, hb, ib⟩ := h
  obtain ⟨c, hc, ic⟩ := h'
  cases b with
  | true => exact ⟨c, Ev.bind hb (ev_pos rfl hc), ⟨fun h => ⟨ib.1 rfl, ic.1 h⟩, fun h => ic.2 h.2⟩⟩
  | false => exact ⟨false, Ev.bind hb (ev_neg (by decide) hB), ⟨fun h => (Bool.false_ne_true h).elim, fun h => absurd (ib.2 h.1) (by decide)⟩⟩
theorem EvB.iteE {c : Prop} [Decidable c] {A B : Nat → Option Bool} {p : Prop} (hB : Ev B false) (h : EvB A p) : EvB (fun n => if c then A n else B n) (c ∧ p) := by
  obtain ⟨b, hb, ib⟩ := h
  by_cases hc : c
  · exact ⟨b, ev_pos hc hb, ⟨fun h => ⟨hc, ib.1 h⟩, fun h => ib.2 h.2⟩⟩
  · exact ⟨false, ev_neg hc hB, ⟨fun h => (Bool.false_ne_true h).elim, fun h => absurd h.1 hc⟩⟩
theorem EvB.bindN {g : Nat → Option Bool} {J : Nat → Bool → Option Bool} {p q : Prop} (hB : Ev (fun n => J n true) false) (h : EvB g p) (h' : EvB (fun n => J n false) q) : EvB (fun n => (g n).bind fun t => J n (!t)) (p ∧ q) := by
  obtain ⟨b, hb, ib⟩ := h
  obtain ⟨c, hc, ic⟩ := h'
  cases b with
  | true => exact ⟨c, Ev.bind hb hc, ⟨fun h => ⟨ib.1 rfl, ic.1 h⟩, fun h => ic.2 h.2⟩⟩
  | false => exact ⟨false, Ev.bind hb hB, ⟨fun h => (Bool.false_ne_true h).elim, fun h => absurd (ib.2 h.1) (by decide)⟩⟩
theorem EvB.succ {g : Nat → Option Bool} {p : Prop} (h : EvB (fun k => g (k + 1)) p) : EvB g p := by
  obtain ⟨b, hb, ib⟩ := h
  exact ⟨b, ev_succ hb, ib⟩
theorem EvB.true_ {p : Prop} (h : p) : EvB (fun _ => some true) p := ⟨true, Ev.now _, ⟨fun _ => h, fun _ => rfl⟩⟩
theorem EvB.false_ {p : Prop} (h : ¬ p) : EvB (fun _ => some false) p := ⟨false, Ev.now _, ⟨fun e => (Bool.false_ne_true e).elim, fun e => absurd e h⟩⟩
theorem EvB.pos {c : Prop} [Decidable c] {A B : Nat → Option Bool} {p : Prop} (hc : c) (h : EvB A p) : EvB (fun n => if c then A n else B n) p := by
  simpa only [if_pos hc] using h
theorem EvB.neg {c : Prop} [Decidable c] {A B : Nat → Option Bool} {p : Prop} (hc : ¬ c) (h : EvB B p) : EvB (fun n => if c then A n else B n) p := by
  simpa only [if_neg hc] using h

theorem impl_in_eq (a b c : Int) : impl_in.f a b c = some (decide (b ≤ a ∧ a ≤ c)) := by
  unfold impl_in.f
  split
  · congr 1
    rw [decide_eq_decide]
    omega
  · congr 1
    symm
    rw [decide_eq_false_iff_not]
    omega
theorem impl_in_evB (a b c : Int) : EvB (fun _ => impl_in.f a b c) (b ≤ a ∧ a ≤ c) := by
  rw [impl_in_eq]
  exact EvB.dec

def RunOk (a b c d : Int) : Prop := 1 ≤ a ∧ a ≤ 40 ∧ 0 ≤ b ∧ b ≤ 20 ∧ 1 ≤ c ∧ c ≤ 40 ∧ 2 ≤ d ∧ d ≤ 4
instance (a b c d : Int) : Decidable (RunOk a b c d) := by unfold RunOk; infer_instance
theorem impl_run_eq (a b c d : Int) : impl_RunnerOk.f a b c d = some (decide (RunOk a b c d)) := by
  simp only [impl_RunnerOk.f, impl_in_eq, Option.bind_some, decide_eq_true_eq]
  repeat' split
  all_goals first | (congr 1; rw [decide_eq_decide]; unfold RunOk; omega) | (congr 1; symm; rw [decide_eq_false_iff_not]; unfold RunOk; omega)

theorem spec_in_eq (a b c : Int) : spec_l1In.f a b c = some (decide (b ≤ a ∧ a ≤ c)) := by
  unfold spec_l1In.f
  split
  · congr 1
    rw [decide_eq_decide]
    omega
  · congr 1
    symm
    rw [decide_eq_false_iff_not]
    omega
theorem spec_in_evB (a b c : Int) : EvB (fun _ => spec_l1In.f a b c) (b ≤ a ∧ a ≤ c) := by
  rw [spec_in_eq]
  exact EvB.dec

theorem spec_run_eq (a b c d : Int) : spec_RunnerOk.f a b c d = some (decide (RunOk a b c d)) := by
  simp only [spec_RunnerOk.f, spec_in_eq, Option.bind_some, decide_eq_true_eq]
  repeat' split
  all_goals first | (congr 1; rw [decide_eq_decide]; unfold RunOk; omega) | (congr 1; symm; rw [decide_eq_false_iff_not]; unfold RunOk; omega)

def gr (e p d : Int) : Int := mx (e * p - d) 0
theorem gr_bounds {e p d : Int} (h0 : 0 ≤ e) (h1 : e ≤ 4) (h2 : 1 ≤ p) (h3 : p ≤ 40) (h4 : 0 ≤ d) (h5 : d ≤ 20) : 0 ≤ e * p ∧ e * p ≤ 160 ∧ 0 ≤ gr e p d ∧ gr e p d ≤ 160 := by
  have a := Int.mul_nonneg h0 (show 0 ≤ p by omega)
  have b : e * p ≤ 4 * 40 := Int.mul_le_mul h1 h3 (by omega) (by omega)
  unfold gr mx
  split <;> omega
theorem impl_grow {p d s n e sp : Int} (h0 : 0 ≤ e) (h1 : e ≤ 4) (h2 : 1 ≤ p) (h3 : p ≤ 40) (h4 : 0 ≤ d) (h5 : d ≤ 20) (h6 : 0 ≤ sp) (h7 : sp ≤ 1000) : impl_Runner_grows.f p d s n sp e = some (sp + gr e p d) := by
  obtain ⟨a, b, c, f⟩ := gr_bounds h0 h1 h2 h3 h4 h5
  unfold impl_Runner_grows.f
  rw [w64 (x := e * p) (by omega) (by omega), w64 (x := e * p - d) (by omega) (by omega)]
  unfold gr at c f ⊢
  rw [w64 (by omega) (by omega)]

theorem spec_grow {p d s n e : Int} (h0 : 0 ≤ e) (h1 : e ≤ 4) (h2 : 1 ≤ p) (h3 : p ≤ 40) (h4 : 0 ≤ d) (h5 : d ≤ 20) : spec_l3Grow.f p d s n e = some (gr e p d) := by
  obtain ⟨a, b, _, _⟩ := gr_bounds h0 h1 h2 h3 h4 h5
  unfold spec_l3Grow.f spec_l1Max.f
  rw [w64 (x := e * p) (by omega) (by omega), w64 (by omega) (by omega)]
  unfold gr mx
  by_cases h : e * p - d < 0
  · rw [if_pos (by omega), if_pos h]; rfl
  · rw [if_neg (by omega), if_neg h]; rfl

theorem rolls_same {p d s n x1 x2 : Int} (hr : RunOk p d s n) (hx : x2 ≤ 400) (k : Nat) : ∀ sp far t e, 0 ≤ sp → sp ≤ 1000 → 0 ≤ e → e ≤ 4 → impl_Runner_rolls.l0 k x1 x2 sp far t e p d s n = spec_Rolls.l0 k x1 x2 sp far t e p d s n := by
  obtain ⟨a1, a2, a3, a4, a5, a6, a7, a8⟩ := hr
  induction k with
  | zero => intro sp far t e _ _ _ _; simp only [impl_Runner_rolls.l0, spec_Rolls.l0]
  | succ k ih =>
    intro sp far t e h0 h1 h2 h3
    have e1 : wrap64 (n - 1) = n - 1 := w64 (by omega) (by omega)
    obtain ⟨_, _, b3, b4⟩ := gr_bounds h2 h3 a1 a2 a3 a4
    obtain ⟨_, _, c3, c4⟩ := gr_bounds (show 0 ≤ n - 1 by omega) (by omega) a1 a2 a3 a4
    simp only [impl_Runner_rolls.l0, spec_Rolls.l0, e1, spec_grow h2 h3 a1 a2 a3 a4, impl_grow h2 h3 a1 a2 a3 a4 h0 h1, spec_grow (show 0 ≤ n - 1 by omega) (by omega) a1 a2 a3 a4, impl_grow (show 0 ≤ n - 1 by omega) (by omega) a1 a2 a3 a4 h0 h1, Option.bind_some, w64 (x := sp + gr e p d) (by omega) (by omega), w64 (x := sp + gr (n - 1) p d) (by omega) (by omega)]
    by_cases g0 : sp < x2
    · rw [if_pos g0, if_pos g0]
      by_cases g1 : sp ≥ x1
      · rw [if_pos g1, if_pos g1]
        by_cases g2 : gr (n - 1) p d = 0
        · rw [if_pos (by omega), if_pos g2]
        · rw [if_neg (by omega), if_neg g2]
          exact ih _ _ _ _ (by omega) (by omega) (by omega) (by omega)
      · rw [if_neg g1, if_neg g1]
        by_cases g2 : gr e p d = 0
        · rw [if_pos (by omega), if_pos g2]
        · rw [if_neg (by omega), if_neg g2]
          exact ih _ _ _ _ (by omega) (by omega) h2 h3
    · rw [if_neg g0, if_neg g0]
theorem rolls_ends {p d s n x1 x2 : Int} (hr : RunOk p d s n) (hx : x2 ≤ 400) : ∀ (D : Nat) (sp far t e : Int), 0 ≤ sp → sp ≤ 1000 → 0 ≤ e → e ≤ 4 → x2 - sp ≤ D → ∃ r, Ev (fun k => spec_Rolls.l0 k x1 x2 sp far t e p d s n) r := by
  obtain ⟨a1, a2, a3, a4, a5, a6, a7, a8⟩ := hr
  have e1 : wrap64 (n - 1) = n - 1 := w64 (by omega) (by omega)
  intro D
  induction D with
  | zero =>
    intro sp far t e h0 h1 h2 h3 h4
    refine ex_succ ?_
    simp only [spec_Rolls.l0]
    exact ⟨_, ev_neg (by omega) (Ev.now _)⟩
  | succ D ih =>
    intro sp far t e h0 h1 h2 h3 h4
    obtain ⟨_, _, b3, b4⟩ := gr_bounds h2 h3 a1 a2 a3 a4
    obtain ⟨_, _, c3, c4⟩ := gr_bounds (show 0 ≤ n - 1 by omega) (by omega) a1 a2 a3 a4
    have q1 := spec_grow (s := s) (n := n) h2 h3 a1 a2 a3 a4
    have q2 := spec_grow (s := s) (n := n) (show 0 ≤ n - 1 by omega) (by omega) a1 a2 a3 a4
    have q3 : wrap64 (sp + gr e p d) = sp + gr e p d := w64 (by omega) (by omega)
    have q4 : wrap64 (sp + gr (n - 1) p d) = sp + gr (n - 1) p d := w64 (by omega) (by omega)
    by_cases g0 : sp < x2
    · by_cases g1 : sp ≥ x1
      · by_cases g2 : gr (n - 1) p d = 0
        · refine ex_succ ?_
          simp only [spec_Rolls.l0, e1, q1, q2, q3, q4, Option.bind_some]
          exact ⟨_, ev_pos g0 (ev_pos g1 (ev_pos g2 (Ev.now _)))⟩
        · obtain ⟨r, h⟩ := ih (sp + gr (n - 1) p d) (wrap64 (far + (sp + gr (n - 1) p d))) (wrap64 (t + 1)) (n - 1) (by omega) (by omega) (by omega) (by omega) (by omega)
          refine ⟨r, ev_succ ?_⟩
          simp only [spec_Rolls.l0, e1, q1, q2, q3, q4, Option.bind_some]
          exact ev_pos g0 (ev_pos g1 (ev_neg g2 h))
      · by_cases g2 : gr e p d = 0
        · refine ex_succ ?_
          simp only [spec_Rolls.l0, e1, q1, q2, q3, q4, Option.bind_some]
          exact ⟨_, ev_pos g0 (ev_neg g1 (ev_pos g2 (Ev.now _)))⟩
        · obtain ⟨r, h⟩ := ih (sp + gr e p d) (wrap64 (far + (sp + gr e p d))) (wrap64 (t + 1)) e (by omega) (by omega) h2 h3 (by omega)
          refine ⟨r, ev_succ ?_⟩
          simp only [spec_Rolls.l0, e1, q1, q2, q3, q4, Option.bind_some]
          exact ev_pos g0 (ev_neg g1 (ev_neg g2 h))
    · refine ex_succ ?_
      simp only [spec_Rolls.l0]
      exact ⟨_, ev_neg g0 (Ev.now _)⟩

theorem brake_same {p d s n : Int} (hr : RunOk p d s n) (k : Nat) : ∀ sp far, 0 ≤ sp → sp ≤ 1000 → impl_Runner_stops.l1 k sp far p d s n = spec_Stops.l1 k sp far p d s n := by
  obtain ⟨a1, a2, a3, a4, a5, a6, a7, a8⟩ := hr
  induction k with
  | zero => intro sp far _ _; simp only [impl_Runner_stops.l1, spec_Stops.l1]
  | succ k ih =>
    intro sp far h0 h1
    have e1 : wrap64 (sp - s) = sp - s := w64 (by omega) (by omega)
    have e2 : spec_l1Max.f 0 (sp - s) = some (mx (sp - s) 0) := by
      unfold spec_l1Max.f mx
      by_cases h : sp - s < 0
      · rw [if_pos (by omega), if_pos h]
      · rw [if_neg (by omega), if_neg h]
    simp only [impl_Runner_stops.l1, spec_Stops.l1, e1, e2, Option.bind_some]
    by_cases g : sp > 0
    · rw [if_pos g, if_pos g]
      exact ih _ _ (by unfold mx; split <;> omega) (by unfold mx; split <;> omega)
    · rw [if_neg g, if_neg g]
theorem brake_ends {p d s n : Int} (hr : RunOk p d s n) : ∀ (D : Nat) (sp far : Int), 0 ≤ sp → sp ≤ 1000 → sp ≤ D → ∃ r, Ev (fun k => spec_Stops.l1 k sp far p d s n) r := by
  obtain ⟨a1, a2, a3, a4, a5, a6, a7, a8⟩ := hr
  intro D
  induction D with
  | zero =>
    intro sp far h0 h1 h2
    refine ex_succ ?_
    simp only [spec_Stops.l1]
    exact ⟨_, ev_neg (by omega) (Ev.now _)⟩
  | succ D ih =>
    intro sp far h0 h1 h2
    have e1 : wrap64 (sp - s) = sp - s := w64 (by omega) (by omega)
    have e2 : spec_l1Max.f 0 (sp - s) = some (mx (sp - s) 0) := by
      unfold spec_l1Max.f mx
      by_cases h : sp - s < 0
      · rw [if_pos (by omega), if_pos h]
      · rw [if_neg (by omega), if_neg h]
    by_cases g : sp > 0
    · obtain ⟨r, h⟩ := ih (mx (sp - s) 0) (wrap64 (far + mx (sp - s) 0)) (by unfold mx; split <;> omega) (by unfold mx; split <;> omega) (by unfold mx; split <;> omega)
      refine ⟨r, ev_succ ?_⟩
      simp only [spec_Stops.l1, e1, e2, Option.bind_some]
      exact ev_pos g h
    · refine ex_succ ?_
      simp only [spec_Stops.l1]
      exact ⟨_, ev_neg g (Ev.now _)⟩
theorem stops_same {p d s n x1 : Int} (hr : RunOk p d s n) (hx : x1 ≤ 400) (k : Nat) : ∀ sp far, 0 ≤ sp → sp ≤ 800 → impl_Runner_stops.l0 k x1 sp far p d s n = spec_Stops.l0 k x1 sp far p d s n := by
  have hr' := hr
  obtain ⟨a1, a2, a3, a4, a5, a6, a7, a8⟩ := hr'
  induction k with
  | zero => intro sp far _ _; simp only [impl_Runner_stops.l0, spec_Stops.l0]
  | succ k ih =>
    intro sp far h0 h1
    have e1 : wrap64 (n - 1) = n - 1 := w64 (by omega) (by omega)
    obtain ⟨_, _, b3, b4⟩ := gr_bounds (show 0 ≤ n by omega) (by omega) a1 a2 a3 a4
    obtain ⟨_, _, c3, c4⟩ := gr_bounds (show 0 ≤ n - 1 by omega) (by omega) a1 a2 a3 a4
    simp only [impl_Runner_stops.l0, spec_Stops.l0, e1, spec_grow (show 0 ≤ n by omega) (by omega) a1 a2 a3 a4, impl_grow (show 0 ≤ n by omega) (by omega) a1 a2 a3 a4 h0 (show sp ≤ 1000 by omega), spec_grow (show 0 ≤ n - 1 by omega) (by omega) a1 a2 a3 a4, impl_grow (show 0 ≤ n - 1 by omega) (by omega) a1 a2 a3 a4 h0 (show sp ≤ 1000 by omega), Option.bind_some, w64 (x := sp + gr n p d) (by omega) (by omega), w64 (x := sp + gr (n - 1) p d) (by omega) (by omega)]
    by_cases g0 : sp < x1
    · rw [if_pos g0, if_pos g0]
      by_cases g2 : gr n p d = 0
      · rw [if_pos (by omega), if_pos g2]
      · rw [if_neg (by omega), if_neg g2]
        exact ih _ _ (by omega) (by omega)
    · rw [if_neg g0, if_neg g0]
      exact brake_same hr k _ _ (by omega) (by omega)
theorem stops_ends {p d s n x1 : Int} (hr : RunOk p d s n) (hx : x1 ≤ 400) : ∀ (D : Nat) (sp far : Int), 0 ≤ sp → sp ≤ 800 → x1 - sp ≤ D → ∃ r, Ev (fun k => spec_Stops.l0 k x1 sp far p d s n) r := by
  have hr' := hr
  obtain ⟨a1, a2, a3, a4, a5, a6, a7, a8⟩ := hr'
  have e1 : wrap64 (n - 1) = n - 1 := w64 (by omega) (by omega)
  have q1 := spec_grow (s := s) (n := n) (show 0 ≤ n by omega) (by omega) a1 a2 a3 a4
  have q2 := spec_grow (s := s) (n := n) (show 0 ≤ n - 1 by omega) (by omega) a1 a2 a3 a4
  obtain ⟨_, _, b3, b4⟩ := gr_bounds (show 0 ≤ n by omega) (by omega) a1 a2 a3 a4
  obtain ⟨_, _, c3, c4⟩ := gr_bounds (show 0 ≤ n - 1 by omega) (by omega) a1 a2 a3 a4
  intro D
  induction D with
  | zero =>
    intro sp far h0 h1 h2
    obtain ⟨r, h⟩ := brake_ends hr 1000 (sp + gr (n - 1) p d) (wrap64 (far + (sp + gr (n - 1) p d))) (by omega) (by omega) (by omega)
    refine ⟨r, ev_succ ?_⟩
    simp only [spec_Stops.l0, e1, q1, q2, Option.bind_some, w64 (x := sp + gr (n - 1) p d) (by omega) (by omega)]
    exact ev_neg (by omega) h
  | succ D ih =>
    intro sp far h0 h1 h2
    have q3 : wrap64 (sp + gr n p d) = sp + gr n p d := w64 (by omega) (by omega)
    have q4 : wrap64 (sp + gr (n - 1) p d) = sp + gr (n - 1) p d := w64 (by omega) (by omega)
    by_cases g0 : sp < x1
    · by_cases g2 : gr n p d = 0
      · refine ex_succ ?_
        simp only [spec_Stops.l0, e1, q1, q2, q3, q4, Option.bind_some]
        exact ⟨_, ev_pos g0 (ev_pos g2 (Ev.now _))⟩
      · obtain ⟨r, h⟩ := ih (sp + gr n p d) (wrap64 (far + (sp + gr n p d))) (by omega) (by omega) (by omega)
        refine ⟨r, ev_succ ?_⟩
        simp only [spec_Stops.l0, e1, q1, q2, q3, q4, Option.bind_some]
        exact ev_pos g0 (ev_neg g2 h)
    · obtain ⟨r, h⟩ := brake_ends hr 1000 (sp + gr (n - 1) p d) (wrap64 (far + (sp + gr (n - 1) p d))) (by omega) (by omega) (by omega)
      refine ⟨r, ev_succ ?_⟩
      simp only [spec_Stops.l0, e1, q1, q2, q3, q4, Option.bind_some]
      exact ev_neg g0 h

theorem rolls_core {p d s n : Int} (h1 : RunOk p d s n) {x lift : Int} (h2 : 0 ≤ x ∧ x ≤ 400) (h3 : 1 ≤ lift ∧ lift ≤ 400) : ∃ r, Ev (fun k => spec_Rolls.f k p d s n x lift) r ∧ Ev (fun k => impl_Runner_rolls.f k p d s n x lift) r := by
  obtain ⟨a1, a2, a3, a4, a5, a6, a7, a8⟩ := id h1
  obtain ⟨r, hr⟩ := rolls_ends (x1 := x) (x2 := lift) h1 (by omega) 400 0 0 0 n (by omega) (by omega) (by omega) (by omega) (by omega)
  simp only [spec_Rolls.f, spec_run_eq, spec_in_eq, Option.bind_some, decide_eq_true h1, decide_eq_true h2, decide_eq_true h3]
  refine ⟨r, ev_pos (by trivial) (ev_pos (by trivial) (ev_succ ?_)), ?_⟩
  · simp only [spec_Rolls.j0]
    exact ev_neg (by decide) hr
  · simp only [impl_Runner_rolls.f, rolls_same h1 (show lift ≤ 400 by omega) _ 0 0 0 n (by omega) (by omega) (by omega) (by omega)]
    exact hr
theorem stops_core {p d s n : Int} (h1 : RunOk p d s n) {x : Int} (h2 : 0 ≤ x ∧ x ≤ 400) : ∃ r, Ev (fun k => spec_Stops.f k p d s n x) r ∧ Ev (fun k => impl_Runner_stops.f k p d s n x) r := by
  obtain ⟨r, hr⟩ := stops_ends (x1 := x) h1 (by omega) 400 0 0 (by omega) (by omega) (by omega)
  simp only [spec_Stops.f, spec_run_eq, spec_in_eq, Option.bind_some, decide_eq_true h1, decide_eq_true h2]
  refine ⟨r, ev_pos (by trivial) (ev_succ ?_), ?_⟩
  · simp only [spec_Stops.j0]
    exact ev_neg (by decide) hr
  · simp only [impl_Runner_stops.f, stops_same h1 (show x ≤ 400 by omega) _ 0 0 (by omega) (by omega)]
    exact hr
def Good (p d s n lift len x : Int) : Prop := ∃ R S, Ev (fun k => spec_Rolls.f k p d s n x lift) R ∧ Ev (fun k => spec_Stops.f k p d s n x) S ∧ R.2.2 = true ∧ S.2 = true ∧ R.1 ≤ len ∧ S.1 ≤ len
def Fin_ (p d s n lift len : Int) (r : Int × Int × Bool) : Prop := (r.2.2 = true ∧ 0 ≤ r.1 ∧ r.1 ≤ r.2.1 ∧ r.2.1 ≤ lift ∧ Good p d s n lift len r.1 ∧ Good p d s n lift len r.2.1 ∧ ∀ x, 0 ≤ x → x ≤ lift → Good p d s n lift len x → r.1 ≤ x ∧ x ≤ r.2.1) ∨ (r = (0, 0, false) ∧ ∀ x, 0 ≤ x → x ≤ lift → ¬ Good p d s n lift len x)
def Inv_ (p d s n lift len h : Int) (low high : Int) (xs : List Int) : Prop := (xs = [] ∧ low = -1 ∧ high = -1 ∧ ∀ x, 0 ≤ x → x < h → ¬ Good p d s n lift len x) ∨ (1 ≤ xs.length ∧ 0 ≤ low ∧ low ≤ high ∧ high < h ∧ xs.getD 0 0 = low ∧ xs.getD (xs.length - 1) 0 = high ∧ Good p d s n lift len low ∧ Good p d s n lift len high ∧ ∀ x, 0 ≤ x → x < h → Good p d s n lift len x → low ≤ x ∧ x ≤ high)
theorem inv_no {p d s n lift len h low high : Int} {xs : List Int} (hi : Inv_ p d s n lift len h low high xs) (hg : ¬ Good p d s n lift len h) : Inv_ p d s n lift len (h + 1) low high xs := by
  rcases hi with ⟨a, b, c, e⟩ | ⟨a, b, c, e, f, g, i, j, l⟩
  · refine Or.inl ⟨a, b, c, fun x h0 h1 => ?_⟩
    by_cases q : x = h
    · subst q; exact hg
    · exact e x h0 (by omega)
  · refine Or.inr ⟨a, b, c, by omega, f, g, i, j, fun x h0 h1 h2 => ?_⟩
    by_cases q : x = h
    · subst q; exact absurd h2 hg
    · exact l x h0 (by omega) h2
theorem inv_yes {p d s n lift len h low high : Int} {xs : List Int} (h0 : 0 ≤ h) (hi : Inv_ p d s n lift len h low high xs) (hg : Good p d s n lift len h) : Inv_ p d s n lift len (h + 1) (if low < 0 then h else low) h (xs ++ [h]) := by
  rcases hi with ⟨a, b, c, e⟩ | ⟨a, b, c, e, f, g, i, j, l⟩
  · subst a
    rw [if_pos (by omega)]
    refine Or.inr ⟨by simp, h0, by omega, by omega, rfl, rfl, hg, hg, fun x h0 h1 h2 => ?_⟩
    by_cases q : x = h
    · omega
    · exact absurd h2 (e x h0 (by omega))
  · rw [if_neg (by omega)]
    refine Or.inr ⟨by simp, b, by omega, by omega, ?_, ?_, i, hg, fun x h0 h1 h2 => ?_⟩
    · rw [← f, List.getD_eq_getElem?_getD, List.getD_eq_getElem?_getD, List.getElem?_append_left (by omega)]
    · rw [List.getD_eq_getElem?_getD, List.getElem?_append_right (by simp)]
      simp
    · by_cases q : x = h
      · omega
      · have := l x h0 (by omega) h2
        omega
theorem decide_loop {p d s n lift len : Int} (h1 : RunOk p d s n) (h3 : 1 ≤ lift ∧ lift ≤ 400) : ∀ (D : Nat) (h low high : Int) (xs : List Int), 0 ≤ h → lift + 1 - h = D → (xs.length : Int) ≤ h → Inv_ p d s n lift len h low high xs → ∃ r, Ev (fun k => spec_Decide.l0 k lift len low high h p d s n) r ∧ Ev (fun k => impl_Decide.l0 k lift len xs (lift + 1) h p d s n) r ∧ Fin_ p d s n lift len r := by
  intro D
  induction D with
  | zero =>
    intro h low high xs h0 hD hx hi
    rcases hi with ⟨a, b, c, e⟩ | ⟨a, b, c, e, f, g, i, j, l⟩
    · subst a
      refine ⟨(0, 0, false), ev_succ ?_, ev_succ ?_, Or.inr ⟨rfl, fun x h0 h1 => e x h0 (by omega)⟩⟩
      · simp only [spec_Decide.l0]
        exact ev_neg (by omega) (ev_pos (by omega) (Ev.now _))
      · simp only [impl_Decide.l0]
        exact ev_neg (by omega) (ev_pos (by trivial) (Ev.now _))
    · refine ⟨(low, high, true), ev_succ ?_, ev_succ ?_, Or.inl ⟨rfl, b, c, by show high ≤ lift; omega, i, j, fun x h0 h1 => l x h0 (by omega)⟩⟩
      · simp only [spec_Decide.l0]
        exact ev_neg (by omega) (ev_neg (by omega) (Ev.now _))
      · have e1 : wrap64 ((xs.length : Int) - 1) = ((xs.length - 1 : Nat) : Int) := by
          rw [w64 (by omega) (by omega)]
          omega
        have z : rd xs 0 = xs.getD 0 0 := rd_nat xs 0
        simp only [impl_Decide.l0, e1, rd_nat, z, f, g]
        exact ev_neg (by omega) (ev_neg (by omega) (ev_pos (by omega) (ev_pos (by omega) (ev_pos (by omega) (Ev.now _)))))
  | succ D ih =>
    intro h low high xs h0 hD hx hi
    obtain ⟨R, r1, r2⟩ := rolls_core h1 (x := h) (lift := lift) ⟨h0, by omega⟩ h3
    obtain ⟨S, s1, s2⟩ := stops_core h1 (x := h) ⟨h0, by omega⟩
    have e1 : wrap64 (h + 1) = h + 1 := w64 (by omega) (by omega)
    have hgood : Good p d s n lift len h ↔ (R.2.2 = true ∧ S.2 = true ∧ R.1 ≤ len ∧ S.1 ≤ len) := by
      constructor
      · rintro ⟨R', S', a, b, c⟩
        have := ev_one a r1
        have := ev_one b s1
        subst_vars
        exact c
      · exact fun c => ⟨R, S, r1, s1, c⟩
    have skip : ¬ Good p d s n lift len h → ∃ r, Ev (fun k => spec_Decide.j2 k lift len low high h false p d s n) r ∧ Ev (fun k => impl_Decide.l0 k lift len xs (lift + 1) (h + 1) p d s n) r ∧ Fin_ p d s n lift len r := by
      intro hg
      obtain ⟨r, q1, q2, q3⟩ := ih (h + 1) low high xs (by omega) (by omega) (by omega) (inv_no hi hg)
      refine ⟨r, ev_succ ?_, q2, q3⟩
      simp only [spec_Decide.j2, e1]
      exact ev_neg (by decide) q1
    by_cases c1 : R.2.2 = true
    · by_cases c2 : S.2 = true
      · by_cases c3 : R.1 ≤ len
        · by_cases c4 : S.1 ≤ len
          · have hg := hgood.2 ⟨c1, c2, c3, c4⟩
            obtain ⟨r, q1, q2, q3⟩ := ih (h + 1) (if low < 0 then h else low) h (xs ++ [h]) (by omega) (by omega) (by simp; omega) (inv_yes h0 hi hg)
            refine ⟨r, ev_succ ?_, ev_succ ?_, q3⟩
            · simp only [spec_Decide.l0]
              refine ev_pos (by omega) (Ev.bind r1 (Ev.bind s1 (ev_pos c1 (ev_pos c2 (ev_pos c3 (ev_succ ?_))))))
              simp only [spec_Decide.j2, e1, decide_eq_true c4]
              refine ev_pos (by trivial) ?_
              by_cases c : low < 0
              · rw [if_pos c] at q1; exact ev_pos c q1
              · rw [if_neg c] at q1; exact ev_neg c q1
            · simp only [impl_Decide.l0, e1]
              exact ev_pos (by omega) (Ev.bind r2 (Ev.bind s2 (ev_pos c1 (ev_pos c2 (ev_pos c3 (ev_pos c4 (ev_pos (by omega) q2)))))))
          · obtain ⟨r, q1, q2, q3⟩ := skip (fun g => c4 (hgood.1 g).2.2.2)
            refine ⟨r, ev_succ ?_, ev_succ ?_, q3⟩
            · simp only [spec_Decide.l0]
              refine ev_pos (by omega) (Ev.bind r1 (Ev.bind s1 (ev_pos c1 (ev_pos c2 (ev_pos c3 ?_)))))
              simp only [decide_eq_false c4]
              exact q1
            · simp only [impl_Decide.l0, e1]
              exact ev_pos (by omega) (Ev.bind r2 (Ev.bind s2 (ev_pos c1 (ev_pos c2 (ev_pos c3 (ev_neg c4 q2))))))
        · obtain ⟨r, q1, q2, q3⟩ := skip (fun g => c3 (hgood.1 g).2.2.1)
          refine ⟨r, ev_succ ?_, ev_succ ?_, q3⟩
          · simp only [spec_Decide.l0]
            exact ev_pos (by omega) (Ev.bind r1 (Ev.bind s1 (ev_pos c1 (ev_pos c2 (ev_neg c3 q1)))))
          · simp only [impl_Decide.l0, e1]
            exact ev_pos (by omega) (Ev.bind r2 (Ev.bind s2 (ev_pos c1 (ev_pos c2 (ev_neg c3 q2)))))
      · obtain ⟨r, q1, q2, q3⟩ := skip (fun g => c2 (hgood.1 g).2.1)
        refine ⟨r, ev_succ ?_, ev_succ ?_, q3⟩
        · simp only [spec_Decide.l0]
          exact ev_pos (by omega) (Ev.bind r1 (Ev.bind s1 (ev_pos c1 (ev_neg c2 q1))))
        · simp only [impl_Decide.l0, e1]
          exact ev_pos (by omega) (Ev.bind r2 (Ev.bind s2 (ev_pos c1 (ev_neg c2 q2))))
    · obtain ⟨r, q1, q2, q3⟩ := skip (fun g => c1 (hgood.1 g).1)
      refine ⟨r, ev_succ ?_, ev_succ ?_, q3⟩
      · simp only [spec_Decide.l0]
        exact ev_pos (by omega) (Ev.bind r1 (Ev.bind s1 (ev_neg c1 q1)))
      · simp only [impl_Decide.l0, e1]
        exact ev_pos (by omega) (Ev.bind r2 (Ev.bind s2 (ev_neg c1 q2)))
theorem decide_both (p d s n lift len : Int) : ∃ r, Ev (fun k => spec_Decide.f k p d s n lift len) r ∧ Ev (fun k => impl_Decide.f k p d s n lift len) r ∧ (RunOk p d s n → 1 ≤ lift ∧ lift ≤ 400 → 0 ≤ len ∧ len ≤ 10000000 → Fin_ p d s n lift len r) := by
  simp only [spec_Decide.f, impl_Decide.f, spec_run_eq, impl_run_eq, impl_speedOk.f, impl_in_eq, spec_in_eq, Option.bind_some]
  have b1 : Ev (fun k => spec_Decide.j0 k lift len true p d s n) (0, 0, false) := by
    refine ev_succ ?_
    simp only [spec_Decide.j0]
    exact ev_pos (by trivial) (Ev.now _)
  have b2 : Ev (fun k => impl_Decide.j0 k lift len true p d s n) (0, 0, false) := by
    refine ev_succ ?_
    simp only [impl_Decide.j0]
    exact ev_pos (by trivial) (Ev.now _)
  by_cases h1 : RunOk p d s n
  · by_cases h2 : 1 ≤ lift ∧ lift ≤ 400
    · by_cases h3 : 0 ≤ len ∧ len ≤ 10000000
      · simp only [decide_eq_true h1, decide_eq_true h2, decide_eq_true h3]
        obtain ⟨r, q1, q2, q3⟩ := decide_loop (len := len) h1 h2 (lift + 1).toNat 0 (-1) (-1) [] (by omega) (by omega) (by simp) (Or.inl ⟨rfl, rfl, rfl, fun x h0 h1 => by omega⟩)
        refine ⟨r, ev_pos (by trivial) (ev_pos (by trivial) (ev_succ ?_)), ev_pos (by trivial) (ev_pos (by trivial) (ev_succ ?_)), fun _ _ _ => q3⟩
        · simp only [spec_Decide.j0]
          exact ev_neg (by decide) q1
        · simp only [impl_Decide.j0]
          rw [w64 (x := lift + 1) (by omega) (by omega)]
          exact ev_neg (by decide) q2
      · simp only [decide_eq_true h1, decide_eq_true h2, decide_eq_false h3]
        exact ⟨_, ev_pos (by trivial) (ev_pos (by trivial) b1), ev_pos (by trivial) (ev_pos (by trivial) b2), fun _ _ h => absurd h h3⟩
    · simp only [decide_eq_true h1, decide_eq_false h2]
      exact ⟨_, ev_pos (by trivial) (ev_neg (by decide) b1), ev_pos (by trivial) (ev_neg (by decide) b2), fun _ h _ => absurd h h2⟩
  · simp only [decide_eq_false h1]
    exact ⟨_, ev_neg (by decide) b1, ev_neg (by decide) b2, fun h _ _ => absurd h h1⟩

theorem rolls_both (p d s n fail lift : Int) : ∃ r, Ev (fun k => spec_Rolls.f k p d s n fail lift) r ∧ Ev (fun k => impl_Rolls.f k p d s n fail lift) r := by
  simp only [spec_Rolls.f, impl_Rolls.f, spec_run_eq, impl_run_eq, impl_speedOk.f, impl_in_eq, spec_in_eq, Option.bind_some]
  have bad : Ev (fun k => spec_Rolls.j0 k fail lift true p d s n) (0, 0, false) := by
    refine ev_succ ?_
    simp only [spec_Rolls.j0]
    exact ev_pos (by trivial) (Ev.now _)
  by_cases h1 : RunOk p d s n
  · simp only [decide_eq_true h1]
    by_cases h2 : 0 ≤ fail ∧ fail ≤ 400
    · simp only [decide_eq_true h2]
      by_cases h3 : 1 ≤ lift ∧ lift ≤ 400
      · simp only [decide_eq_true h3]
        have h1' := h1
        obtain ⟨a1, a2, a3, a4, a5, a6, a7, a8⟩ := h1'
        obtain ⟨r, hr⟩ := rolls_ends (x1 := fail) (x2 := lift) h1 (by omega) 400 0 0 0 n (by omega) (by omega) (by omega) (by omega) (by omega)
        refine ⟨r, ev_pos (by trivial) (ev_pos (by trivial) (ev_succ ?_)), ev_pos (by trivial) (ev_pos (by trivial) (ev_pos (by trivial) ?_))⟩
        · simp only [spec_Rolls.j0]
          exact ev_neg (by decide) hr
        · refine Ev.bind (a := r) ?_ (Ev.now _)
          simp only [impl_Runner_rolls.f, rolls_same h1 (show lift ≤ 400 by omega) _ 0 0 0 n (by omega) (by omega) (by omega) (by omega)]
          exact hr
      · simp only [decide_eq_false h3]
        exact ⟨_, ev_pos (by trivial) (ev_pos (by trivial) bad), ev_pos (by trivial) (ev_pos (by trivial) (ev_neg (by decide) (Ev.now _)))⟩
    · simp only [decide_eq_false h2]
      exact ⟨_, ev_pos (by trivial) (ev_neg (by decide) bad), ev_pos (by trivial) (ev_neg (by decide) (Ev.now _))⟩
  · simp only [decide_eq_false h1]
    exact ⟨_, ev_neg (by decide) bad, ev_neg (by decide) (Ev.now _)⟩

theorem stops_both (p d s n fail : Int) : ∃ r, Ev (fun k => spec_Stops.f k p d s n fail) r ∧ Ev (fun k => impl_Stops.f k p d s n fail) r := by
  simp only [spec_Stops.f, impl_Stops.f, spec_run_eq, impl_run_eq, impl_speedOk.f, impl_in_eq, spec_in_eq, Option.bind_some]
  have bad : Ev (fun k => spec_Stops.j0 k fail true p d s n) (0, false) := by
    refine ev_succ ?_
    simp only [spec_Stops.j0]
    exact ev_pos (by trivial) (Ev.now _)
  by_cases h1 : RunOk p d s n
  · simp only [decide_eq_true h1]
    by_cases h2 : 0 ≤ fail ∧ fail ≤ 400
    · simp only [decide_eq_true h2]
      obtain ⟨r, hr⟩ := stops_ends (x1 := fail) h1 (by omega) 400 0 0 (by omega) (by omega) (by omega)
      refine ⟨r, ev_pos (by trivial) (ev_succ ?_), ev_pos (by trivial) (ev_pos (by trivial) ?_)⟩
      · simp only [spec_Stops.j0]
        exact ev_neg (by decide) hr
      · refine Ev.bind (a := r) ?_ (Ev.now _)
        simp only [impl_Runner_stops.f, stops_same h1 (show fail ≤ 400 by omega) _ 0 0 (by omega) (by omega)]
        exact hr
    · simp only [decide_eq_false h2]
      exact ⟨_, ev_pos (by trivial) bad, ev_pos (by trivial) (ev_neg (by decide) (Ev.now _))⟩
  · simp only [decide_eq_false h1]
    exact ⟨_, ev_neg (by decide) bad, ev_neg (by decide) (Ev.now _)⟩

theorem wrap_i64_eq (n : Int) : IntKind.i64.wrap n = wrap64 n := by
  rw [IntKind.wrap_i64, wrap64]
theorem and_255 (x : Int) : 0 ≤ Go.bits .and .i64 x 255 ∧ Go.bits .and .i64 x 255 ≤ 255 := by
  have h : (BitVec.ofInt 64 x &&& BitVec.ofInt 64 255).toNat ≤ 255 := by
    rw [BitVec.toNat_and]
    exact Nat.le_trans Nat.and_le_right (by decide)
  show 0 ≤ IntKind.i64.wrap ((BitVec.ofInt 64 x &&& BitVec.ofInt 64 255).toNat : Int) ∧ IntKind.i64.wrap ((BitVec.ofInt 64 x &&& BitVec.ofInt 64 255).toNat : Int) ≤ 255
  generalize (BitVec.ofInt 64 x &&& BitVec.ofInt 64 255).toNat = m at h
  rw [wrap_i64_eq, w64 (by omega) (by omega)]
  omega
theorem new_loop (l : List Int) (hl : l.length ≤ 1048576) : ∀ (d n : Nat) (s : Int), n + d = l.length → ∃ s', Ev (fun k => spec_l1New.l0 k l s (n : Int)) (l, 0, s') := by
  intro d
  induction d with
  | zero =>
    intro n s hn
    refine ⟨s, ev_succ ?_⟩
    simp only [spec_l1New.l0]
    exact ev_neg (by omega) (Ev.now _)
  | succ d ih =>
    intro n s hn
    by_cases h : (n : Int) < 4000
    · obtain ⟨s', e⟩ := ih (n + 1) (Go.bits .and .i64 (wrap64 ((wrap64 ((wrap64 (s * 131)) + (wrap64 (rd l (n : Int))))) + 7)) 1073741823) (by omega)
      refine ⟨s', ev_succ ?_⟩
      simp only [spec_l1New.l0]
      rw [w64_succ (m := l.length) (n := n) (by omega) (by omega)]
      exact ev_pos (by omega) (ev_pos h (ev_pos (by omega) e))
    · refine ⟨s, ev_succ ?_⟩
      simp only [spec_l1New.l0]
      exact ev_pos (by omega) (ev_neg h (Ev.now _))
theorem new_ev (l : List Int) (hl : l.length ≤ 1048576) : ∃ s, Ev (fun k => spec_l1New.f k l) (l, 0, s) := by
  unfold spec_l1New.f
  exact new_loop l hl l.length 0 _ (by omega)
def At_ (l : List Int) (pos : Int) : Prop := 0 ≤ pos ∧ pos ≤ l.length
theorem byte_eq {l : List Int} (hl : l.length ≤ 1048576) {pos : Int} (hp : At_ l pos) (s : Int) : ∃ b pos' s', spec_l1Byte.f l pos s = some (b, pos', s') ∧ 0 ≤ b ∧ b ≤ 255 ∧ At_ l pos' := by
  obtain ⟨h0, h1⟩ := hp
  unfold spec_l1Byte.f
  by_cases h : pos < (l.length : Int)
  · rw [if_pos h, if_pos h0]
    refine ⟨_, _, _, rfl, (and_255 _).1, (and_255 _).2, ?_⟩
    rw [w64 (by omega) (by omega)]
    exact ⟨by omega, by omega⟩
  · rw [if_neg h]
    exact ⟨_, _, _, rfl, (and_255 _).1, (and_255 _).2, h0, h1⟩
theorem tmod_bd {x a : Int} (h0 : 0 ≤ x) (ha : 1 ≤ a) : 0 ≤ Int.tmod x a ∧ Int.tmod x a < a := by
  rw [Int.tmod_eq_emod_of_nonneg h0]
  exact ⟨Int.emod_nonneg _ (by omega), Int.emod_lt_of_pos _ (by omega)⟩
theorem below_eq {l : List Int} (hl : l.length ≤ 1048576) {pos : Int} (hp : At_ l pos) (s : Int) {a : Int} (ha : 1 ≤ a) : ∃ v pos' s', spec_l1Below.f l pos s a = some (v, pos', s') ∧ 0 ≤ v ∧ v < a ∧ At_ l pos' := by
  unfold spec_l1Below.f
  rw [if_neg (by omega)]
  obtain ⟨b0, p0, s0, e0, l0, u0, q0⟩ := byte_eq hl hp s
  obtain ⟨b1, p1, s1, e1, l1, u1, q1⟩ := byte_eq hl q0 s0
  obtain ⟨b2, p2, s2, e2, l2, u2, q2⟩ := byte_eq hl q1 s1
  obtain ⟨b3, p3, s3, e3, l3, u3, q3⟩ := byte_eq hl q2 s2
  by_cases h : a ≤ 256
  · rw [if_pos h, e0]
    simp only [Option.bind_some]
    rw [if_neg (by omega)]
    obtain ⟨t0, t1⟩ := tmod_bd l0 ha
    exact ⟨_, _, _, rfl, t0, t1, q0⟩
  · rw [if_neg h, e0]
    simp only [Option.bind_some, e1, e2, e3]
    rw [if_neg (by omega)]
    have w0 : wrap64 (b0 * 16777216) = b0 * 16777216 := w64 (by omega) (by omega)
    have w1 : wrap64 (b1 * 65536) = b1 * 65536 := w64 (by omega) (by omega)
    have w2 : wrap64 (b2 * 256) = b2 * 256 := w64 (by omega) (by omega)
    have w3 : wrap64 (b0 * 16777216 + b1 * 65536) = b0 * 16777216 + b1 * 65536 := w64 (by omega) (by omega)
    have w4 : wrap64 (b0 * 16777216 + b1 * 65536 + b2 * 256) = b0 * 16777216 + b1 * 65536 + b2 * 256 := w64 (by omega) (by omega)
    have w5 : wrap64 (b0 * 16777216 + b1 * 65536 + b2 * 256 + b3) = b0 * 16777216 + b1 * 65536 + b2 * 256 + b3 := w64 (by omega) (by omega)
    rw [w0, w1, w2, w3, w4, w5]
    obtain ⟨t0, t1⟩ := tmod_bd (x := b0 * 16777216 + b1 * 65536 + b2 * 256 + b3) (by omega) ha
    exact ⟨_, _, _, rfl, t0, t1, q3⟩

theorem drawRunner_ev (l : List Int) (hl : l.length ≤ 1048576) : ∃ p d s n lift, Ev (fun k => spec_DrawRunner.f k l) (p, d, s, n, lift) ∧ 2 ≤ p ∧ p ≤ 9 ∧ 0 ≤ d ∧ d ≤ 1 ∧ 1 ≤ s ∧ s ≤ 12 ∧ 2 ≤ n ∧ n ≤ 4 ∧ 1 ≤ lift ∧ lift ≤ 120 := by
  obtain ⟨s, hs⟩ := new_ev l hl
  obtain ⟨v1, p1, s1, e1, a1, b1, q1⟩ := below_eq hl (pos := 0) ⟨by omega, by omega⟩ s (a := 8) (by omega)
  obtain ⟨v2, p2, s2, e2, a2, b2, q2⟩ := below_eq hl q1 s1 (a := 2) (by omega)
  obtain ⟨v3, p3, s3, e3, a3, b3, q3⟩ := below_eq hl q2 s2 (a := 12) (by omega)
  obtain ⟨v4, p4, s4, e4, a4, b4, q4⟩ := below_eq hl q3 s3 (a := 3) (by omega)
  obtain ⟨v5, p5, s5, e5, a5, b5, q5⟩ := below_eq hl q4 s4 (a := 120) (by omega)
  refine ⟨2 + v1, v2, 1 + v3, 2 + v4, 1 + v5, ?_, by omega, by omega, by omega, by omega, by omega, by omega, by omega, by omega, by omega, by omega⟩
  unfold spec_DrawRunner.f
  refine Ev.bind hs ?_
  simp only [e1, e2, e3, e4, e5, Option.bind_some]
  rw [w64 (x := 2 + v1) (by omega) (by omega), w64 (x := 1 + v3) (by omega) (by omega), w64 (x := 2 + v4) (by omega) (by omega), w64 (x := 1 + v5) (by omega) (by omega)]
  exact Ev.now _

theorem at_ev {l : List Int} (h : ∀ x ∈ l, 0 ≤ x ∧ x ≤ 255) (hl : l.length ≤ 1048576) (i : Int) (h0 : 0 ≤ i) (h1 : i ≤ 1000000) : ∃ v, laws_at.f l i = some v ∧ 0 ≤ v ∧ v ≤ 255 := by
  unfold laws_at.f
  by_cases hi : i < (l.length : Int)
  · rw [if_pos hi, if_pos h0]
    have := u8_bounds h i.toNat
    refine ⟨_, rfl, ?_⟩
    unfold rd
    rw [w64 (by omega) (by omega)]
    exact this
  · rw [if_neg hi]
    refine ⟨_, rfl, ?_⟩
    rw [w64 (x := i * 7) (by omega) (by omega), w64 (by omega) (by omega), Int.tmod_eq_emod_of_nonneg (by omega)]
    omega

theorem big_ev {l : List Int} (h : l.length ≤ 1048576) : laws_big.f l = some false := by
  unfold laws_big.f
  rw [decide_eq_false (by omega)]
theorem big_big {l : List Int} (h : ¬ l.length ≤ 1048576) : laws_big.f l = some true := by
  unfold laws_big.f
  rw [decide_eq_true (by omega)]

theorem good_more {p d s n lift len len' x : Int} (h : Good p d s n lift len x) (hl : len ≤ len') : Good p d s n lift len' x := by
  obtain ⟨R, S, a, b, c1, c2, c3, c4⟩ := h
  exact ⟨R, S, a, b, c1, c2, by omega, by omega⟩
theorem FnRunways : laws_FnRunways.PureR := by
  intro l0 ⟨hm, hwf⟩
  refine Ev.rounds ?_
  unfold laws_FnRunways.f
  by_cases hb : l0.length ≤ 1048576
  · rw [big_ev hb]
    obtain ⟨v, qv, v0, v1⟩ := at_ev hwf hb 4 (by omega) (by omega)
    obtain ⟨p, d, s, n, lift, hd, p0, p1, d0, d1, s0, s1, n0, n1, l1, l2⟩ := drawRunner_ev l0 hb
    have e1 : wrap64 (20 * v) = 20 * v := w64 (by omega) (by omega)
    have e2 : wrap64 (20 * v + 500) = 20 * v + 500 := w64 (by omega) (by omega)
    have hR : RunOk p d s n := by
      unfold RunOk
      omega
    obtain ⟨r, a1, a2, a3⟩ := decide_both p d s n lift (20 * v)
    obtain ⟨r', b1, b2, b3⟩ := decide_both p d s n lift (20 * v + 500)
    have f := a3 hR ⟨by omega, by omega⟩ ⟨by omega, by omega⟩
    have f' := b3 hR ⟨by omega, by omega⟩ ⟨by omega, by omega⟩
    simp only [Option.bind_some, qv]
    refine ev_neg (by decide) (Ev.bind hd ?_)
    simp only [e1, e2]
    refine Ev.bind a2 (Ev.bind b2 (Ev.bind a1 (ev_neg (by simp) ?_)))
    rcases f with ⟨c1, c2, c3, c4, c5, c6, c7⟩ | ⟨c1, c2⟩
    · obtain ⟨R, hR1, hR2⟩ := rolls_both p d s n r.1 lift
      obtain ⟨S, hS1, hS2⟩ := stops_both p d s n r.2.1
      have g1 : R.2.2 = true ∧ R.1 ≤ 20 * v := by
        obtain ⟨R', S', x1, x2, x3, x4, x5, x6⟩ := c5
        have := ev_one x1 hR1
        subst this
        exact ⟨x3, x5⟩
      have g2 : S.2 = true ∧ S.1 ≤ 20 * v := by
        obtain ⟨R', S', x1, x2, x3, x4, x5, x6⟩ := c6
        have := ev_one x2 hS1
        subst this
        exact ⟨x4, x6⟩
      have m1 := good_more c5 (by omega : 20 * v ≤ 20 * v + 500)
      have m2 := good_more c6 (by omega : 20 * v ≤ 20 * v + 500)
      rcases f' with ⟨w1, w2, w3, w4, w5, w6, w7⟩ | ⟨w1, w2⟩
      · have y1 := w7 r.1 c2 (by omega) m1
        have y2 := w7 r.2.1 (by omega) c4 m2
        refine ev_pos c1 (Ev.bind hR2 (Ev.bind hS2 (ev_pos g1.1 (ev_pos g2.1 (ev_pos g1.2 (ev_pos g2.2 (ev_pos w1 (ev_pos y1.1 (ev_pos y2.2 ?_)))))))))
        simp only [decide_eq_true c3]
        exact Ev.now _
      · exact absurd m1 (w2 r.1 c2 (by omega))
    · rw [c1]
      exact ev_neg (by decide) (ev_pos (by trivial) (Ev.now _))
  · rw [big_big hb]
    simp only [Option.bind_some]
    exact ev_pos (by trivial) (Ev.now _)

end Go.Proofs.Ytnphbpkpjinddaa.Pure
