/- Proved here: the program's and the reference's Flutter are the same function; no condition. -/
import Derived.Test.YtkginilghcepbaaPureDefFnExactFlutter
namespace Go.Proofs.Ytkginilghcepbaa.Pure
open Go.RowKit Go.Proofs.Ytkginilghcepbaa.QFnExactFlutter Go.Proofs.YtkginilghcepbaaW.PrintWords Go.Proofs.YtkginilghcepbaaW.PrintLast Go.Proofs.YtkginilghcepbaaW.PrintMore
set_option linter.unusedVariables false
set_option linter.unusedSimpArgs false

theorem ev_pos {c : Prop} [Decidable c] {α : Type} {A B : Nat → Option α} {r : α} (h : c) (k : Ev A r) : Ev (fun n => if c then A n else B n) r := by
  simpa only [if_pos h] using k
theorem ev_neg {c : Prop} [Decidable c] {α : Type} {A B : Nat → Option α} {r : α} (h : ¬ c) (k : Ev B r) : Ev (fun n => if c then A n else B n) r := by
  simpa only [if_neg h] using k
theorem ev_succ {α : Type} {g : Nat → Option α} {r : α} (h : Ev (fun k => g (k + 1)) r) : Ev g r := Ev.step (fun _ => rfl) h
theorem ex_succ {α : Type} {g : Nat → Option α} (h : ∃ r, Ev (fun k => g (k + 1)) r) : ∃ r, Ev g r := by
  obtain ⟨r, h⟩ := h
  exact ⟨r, ev_succ h⟩
theorem ev_one {α : Type} {g : Nat → Option α} {r q : α} (h : Ev g r) (h' : Ev g q) : r = q := by
  obtain ⟨K, hK⟩ := h
  obtain ⟨L, hL⟩ := h'
  have a := hK (max K L) (Nat.le_max_left _ _)
  have b := hL (max K L) (Nat.le_max_right _ _)
  exact Option.some.inj (a.symm.trans b)
theorem ev_bool {α : Type} {A B : Nat → Option α} {r : α} (b : Bool) (h1 : b = true → Ev A r) (h2 : b = false → Ev B r) : Ev (fun n => if b = true then A n else B n) r := by
  cases b with
  | true => exact ev_pos (by trivial) (h1 rfl)
  | false => exact ev_neg (by decide) (h2 rfl)
theorem bool_eq_of_iff {a b : Bool} {p : Prop} (h : a = true ↔ p) (h' : b = true ↔ p) : a = b := by
  rw [Bool.eq_iff_iff]
  exact h.trans h'.symm
theorem w64 {x : Int} (h0 : -9223372036854775808 ≤ x) (h1 : x ≤ 9223372036854775807) : wrap64 x = x := by
  unfold wrap64
  omega
theorem w64_succ {n m : Nat} (h : n < m) (hm : m ≤ 9223372036854775807) : wrap64 ((n : Int) + 1) = ((n + 1 : Nat) : Int) := by
  unfold wrap64
  omega
theorem rd_nat (l : List Int) (n : Nat) : rd l (n : Int) = l.getD n 0 := by
  unfold rd
  rw [Int.toNat_natCast]
theorem take_set_succ {α : Type} (d : α) {x0 x3 : List α} {n : Nat} (h : n < x0.length) (hl : x3.length = x0.length) (ht : x3.take n = x0.take n) : (x3.set n (x0.getD n d)).take (n + 1) = x0.take (n + 1) := by
  apply List.ext_getElem?
  intro i
  simp only [List.getElem?_take, List.getElem?_set]
  by_cases hi : i < n + 1
  · rw [if_pos hi, if_pos hi]
    by_cases he : n = i
    · subst he
      rw [if_pos rfl, if_pos (by omega), List.getD_eq_getElem?_getD, List.getElem?_eq_getElem h]
      rfl
    · rw [if_neg he]
      have := congrArg (fun l => l[i]?) ht
      simpa only [List.getElem?_take, if_pos (show i < n by omega)] using this
  · rw [if_neg hi, if_neg hi]
theorem u8_bounds {l : List Int} (h : ∀ x ∈ l, 0 ≤ x ∧ x ≤ 255) (n : Nat) : 0 ≤ l.getD n 0 ∧ l.getD n 0 ≤ 255 := by
  rw [List.getD_eq_getElem?_getD]
  cases e : l[n]? with
  | none => simp
  | some x =>
    exact h x (List.mem_of_getElem? e)
theorem getD_map {α β : Type} (c : α → β) (l : List α) (n : Nat) (d : α) : (l.map c).getD n (c d) = c (l.getD n d) := by
  simp only [List.getD_eq_getElem?_getD, List.getElem?_map]
  cases l[n]? <;> rfl
/-- It ends, with true just where p holds. -/
def EvB (g : Nat → Option Bool) (p : Prop) : Prop := ∃ b, Ev g b ∧ (b = true ↔ p)
theorem EvB.iff {g : Nat → Option Bool} {p q : Prop} (h : EvB g p) (h' : p ↔ q) : EvB g q := by
  obtain ⟨b, hb, ib⟩ := h
  exact ⟨b, hb, ib.trans h'⟩
theorem EvB.dec {c : Prop} [Decidable c] : EvB (fun _ => some (decide c)) c := ⟨decide c, Ev.now _, decide_eq_true_iff⟩
theorem EvB.ite {c : Prop} [Decidable c] {A : Nat → Option Bool} {p : Prop} (h : EvB A p) : EvB (fun n => if c then A n else some false) (c ∧ p) := by
  obtain ⟨b, hb, ib⟩ := h
  by_cases hc : c
  · exact ⟨b, ev_pos hc hb, ⟨fun h => ⟨hc, ib.1 h⟩, fun h => ib.2 h.2⟩⟩
  · exact ⟨false, ev_neg hc (Ev.now _), ⟨fun h => (Bool.false_ne_true h).elim, fun h => absurd h.1 hc⟩⟩
theorem EvB.ite_not {c : Prop} [Decidable c] {A : Nat → Option Bool} {p : Prop} (h : EvB A p) : EvB (fun n => if c then some false else A n) (¬ c ∧ p) := by
  obtain ⟨b, hb, ib⟩ := h
  by_cases hc : c
  · exact ⟨false, ev_pos hc (Ev.now _), ⟨fun h => (Bool.false_ne_true h).elim, fun h => absurd hc h.1⟩⟩
  · exact ⟨b, ev_neg hc hb, ⟨fun h => ⟨hc, ib.1 h⟩, fun h => ib.2 h.2⟩⟩
theorem EvB.bind {g A : Nat → Option Bool} {p q : Prop} (h : EvB g p) (h' : EvB A q) : EvB (fun n => (g n).bind fun t => if t = true then A n else some false) (p ∧ q) := by
  obtain ⟨b, hb, ib⟩ := h
  obtain ⟨c, hc, ic⟩ := h'
  cases b with
  | true => exact ⟨c, Ev.bind hb (ev_pos rfl hc), ⟨fun h => ⟨ib.1 rfl, ic.1 h⟩, fun h => ic.2 h.2⟩⟩
  | false => exact ⟨false, Ev.bind hb (ev_neg (by decide) (Ev.now _)), ⟨fun h => (Bool.false_ne_true h).elim, fun h => absurd (ib.2 h.1) (by decide)⟩⟩
theorem EvB.last {g : Nat → Option Bool} {p : Prop} (h : EvB g p) : EvB (fun n => (g n).bind fun t => some t) p := by
  obtain ⟨b, hb, ib⟩ := h
  exact ⟨b, Ev.bind hb (Ev.now _), ib⟩
theorem EvB.same {g g' : Nat → Option Bool} {p : Prop} (h : EvB g p) (h' : EvB g' p) : ∃ b, Ev g b ∧ Ev g' b ∧ (b = true ↔ p) := by
  obtain ⟨b, hb, ib⟩ := h
  obtain ⟨c, hc, ic⟩ := h'
  obtain rfl : c = b := bool_eq_of_iff ic ib
  exact ⟨c, hb, hc, ib⟩
theorem EvB.bindE {g A B : Nat → Option Bool} {p q : Prop} (hB : Ev B false) (h : EvB g p) (h' : EvB A q) : EvB (fun n => (g n).bind fun t => if t = true then A n else B n) (p ∧ q) := by
  obtain ⟨b, hb, ib⟩ := h
  obtain ⟨c, hc, ic⟩ := h'
  cases b with
  | true => exact ⟨c, Ev.bind hb (ev_pos rfl hc), ⟨fun h => ⟨ib.1 rfl, ic.1 h⟩, fun h => ic.2 h.2⟩⟩
  | false => exact ⟨false, Ev.bind hb (ev_neg (by decide) hB), ⟨fun h => (Bool.false_ne_true h).elim, fun h => absurd (ib.2 h.1) (by decide)⟩⟩
theorem EvB.iteE {c : Prop} [Decidable c] {A B : Nat → Option Bool} {p : Prop} (hB : Ev B false) (h : EvB A p) : EvB (fun n => if c then A n else B n) (c ∧ p) := by
  obtain ⟨b, hb, ib⟩ := h
  by_cases hc : c
  · exact ⟨b, ev_pos hc hb, ⟨fun h => ⟨hc, ib.1 h⟩, fun h => ib.2 h.2⟩⟩
  · exact ⟨false, ev_neg hc hB, ⟨fun h => (Bool.false_ne_true h).elim, fun h => absurd h.1 hc⟩⟩
theorem EvB.bindN {g : Nat → Option Bool} {J : Nat → Bool → Option Bool} {p q : Prop} (hB : Ev (fun n => J n true) false) (h : EvB g p) (h' : EvB (fun n => J n false) q) : EvB (fun n => (g n).bind fun t => J n (!t)) (p ∧ q) := by
  obtain ⟨b, hb, ib⟩ := h
  obtain ⟨c, hc, ic⟩ := h'
  cases b with
  | true => exact ⟨c, Ev.bind hb hc, ⟨fun h => ⟨ib.1 rfl, ic.1 h⟩, fun h => ic.2 h.2⟩⟩
  | false => exact ⟨false, Ev.bind hb hB, ⟨fun h => (Bool.false_ne_true h).elim, fun h => absurd (ib.2 h.1) (by decide)⟩⟩
theorem EvB.succ {g : Nat → Option Bool} {p : Prop} (h : EvB (fun k => g (k + 1)) p) : EvB g p := by
  obtain ⟨b, hb, ib⟩ := h
  exact ⟨b, ev_succ hb, ib⟩
theorem EvB.true_ {p : Prop} (h : p) : EvB (fun _ => some true) p := ⟨true, Ev.now _, ⟨fun _ => h, fun _ => rfl⟩⟩
theorem EvB.false_ {p : Prop} (h : ¬ p) : EvB (fun _ => some false) p := ⟨false, Ev.now _, ⟨fun e => (Bool.false_ne_true e).elim, fun e => absurd e h⟩⟩
theorem EvB.pos {c : Prop} [Decidable c] {A B : Nat → Option Bool} {p : Prop} (hc : c) (h : EvB A p) : EvB (fun n => if c then A n else B n) p := by
  simpa only [if_pos hc] using h
theorem EvB.neg {c : Prop} [Decidable c] {A B : Nat → Option Bool} {p : Prop} (hc : ¬ c) (h : EvB B p) : EvB (fun n => if c then A n else B n) p := by
  simpa only [if_neg hc] using h

theorem fcmp_ne (k : FloatKind) (x y : Fl) : fcmp .neq k x y = !fcmp .eql k x y := rfl
theorem sameFloat_ev (x : Fl) : Ev (fun k => laws_sameFloat.f k x x) true := by
  unfold laws_sameFloat.f
  cases h : fcmp .eql .f64 x x with
  | false =>
    have hn : fcmp .neq .f64 x x = true := by rw [fcmp_ne, h]; rfl
    refine ev_pos hn (ev_succ ?_)
    simp only [laws_sameFloat.j0, hn, if_true]
    exact Ev.now _
  | true =>
    have hn : fcmp .neq .f64 x x = false := by rw [fcmp_ne, h]; rfl
    refine ev_neg (by rw [hn]; decide) (ev_succ ?_)
    simp only [laws_sameFloat.j0, hn, h]
    refine ev_neg (by decide) ?_
    refine ev_bool _ (fun hz => ?_) (fun _ => Ev.now _)
    exact ev_pos hz (by simpa using Ev.now true)

theorem eqCx_ev (x0 x1 : Fl) : Ev (fun k => laws_eqCx.f k x0 x1 x0 x1) true := by
  unfold laws_eqCx.f
  refine Ev.bind (sameFloat_ev x0) (ev_pos (by trivial) ?_)
  refine Ev.bind (sameFloat_ev x1) (ev_pos (by trivial) ?_)
  exact Ev.now _

theorem FnExactFlutter : laws_FnExactFlutter.PureR := by
  intro a b c d e f g h
  refine Ev.rounds ?_
  have j0 : Ev (fun k => laws_FnExactFlutter.j0 k false) true := by
    refine ev_succ ?_
    simp only [laws_FnExactFlutter.j0]
    exact ev_neg (by decide) (Ev.now _)
  simp only [laws_FnExactFlutter.f, laws_toCx.f, spec_Flutter.f, impl_Flutter.f, spec_CxLess.f, impl_CxLess.f, spec_CxTimes.f, impl_CxTimes.f, spec_CxAdd.f, impl_CxAdd.f, Option.bind_some]
  exact Ev.bind (eqCx_ev _ _) (ev_pos (by trivial) (Ev.bind (eqCx_ev _ _) j0))

end Go.Proofs.Ytkginilghcepbaa.Pure
