/- Proved here: a drawn flight that goes on from the middle flies as the whole; without forces, rates and pitch nothing changes but by the clock; no condition. -/
import Derived.Test.YtkginilghcepbaaPureDefFnFlown
namespace Go.Proofs.Ytkginilghcepbaa.Pure
open Go.RowKit Go.Proofs.Ytkginilghcepbaa.QFnFlown Go.Proofs.YtkginilghcepbaaW.PrintWords Go.Proofs.YtkginilghcepbaaW.PrintLast Go.Proofs.YtkginilghcepbaaW.PrintMore
set_option linter.unusedVariables false
set_option linter.unusedSimpArgs false

theorem ev_pos {c : Prop} [Decidable c] {α : Type} {A B : Nat → Option α} {r : α} (h : c) (k : Ev A r) : Ev (fun n => if c then A n else B n) r := by
  simpa only [if_pos h] using k
theorem ev_neg {c : Prop} [Decidable c] {α : Type} {A B : Nat → Option α} {r : α} (h : ¬ c) (k : Ev B r) : Ev (fun n => if c then A n else B n) r := by
  simpa only [if_neg h] using k
theorem ev_succ {α : Type} {g : Nat → Option α} {r : α} (h : Ev (fun k => g (k + 1)) r) : Ev g r := Ev.step (fun _ => rfl) h
theorem ex_succ {α : Type} {g : Nat → Option α} (h : ∃ r, Ev (fun k => g (k + 1)) r) : ∃ r, Ev g r := by
  obtain ⟨r, h⟩ := h
  exact ⟨r, ev_succ h⟩
theorem ev_one {α : Type} {g : Nat → Option α} {r q : α} (h : Ev g r) (h' : Ev g q) : r = q := by
  obtain ⟨K, hK⟩ := h
  obtain ⟨L, hL⟩ := h'
  have a := hK (max K L) (Nat.le_max_left _ _)
  have b := hL (max K L) (Nat.le_max_right _ _)
  exact Option.some.inj (a.symm.trans b)
theorem ev_bool {α : Type} {A B : Nat → Option α} {r : α} (b : Bool) (h1 : b = true → Ev A r) (h2 : b = false → Ev B r) : Ev (fun n => if b = true then A n else B n) r := by
  cases b with
  | true => exact ev_pos (by trivial) (h1 rfl)
  | false => exact ev_neg (by decide) (h2 rfl)
theorem bool_eq_of_iff {a b : Bool} {p : Prop} (h : a = true ↔ p) (h' : b = true ↔ p) : a = b := by
  rw [Bool.eq_iff_iff]
  exact h.trans h'.symm
theorem w64 {x : Int} (h0 : -9223372036854775808 ≤ x) (h1 : x ≤ 9223372036854775807) : wrap64 x = x := by
  unfold wrap64
  omega
theorem w64_succ {n m : Nat} (h : n < m) (hm : m ≤ 9223372036854775807) : wrap64 ((n : Int) + 1) = ((n + 1 : Nat) : Int) := by
  unfold wrap64
  omega
theorem rd_nat (l : List Int) (n : Nat) : rd l (n : Int) = l.getD n 0 := by
  unfold rd
  rw [Int.toNat_natCast]
theorem take_set_succ {α : Type} (d : α) {x0 x3 : List α} {n : Nat} (h : n < x0.length) (hl : x3.length = x0.length) (ht : x3.take n = x0.take n) : (x3.set n (x0.getD n d)).take (n + 1) = x0.take (n + 1) := by
  apply List.ext_getElem?
  intro i
  simp only [List.getElem?_take, List.getElem?_set]
  by_cases hi : i < n + 1
  · rw [if_pos hi, if_pos hi]
    by_cases he : n = i
    · subst he
      rw [if_pos rfl, if_pos (by omega), List.getD_eq_getElem?_getD, List.getElem?_eq_getElem h]
      rfl
    · rw [if_neg he]
      have := congrArg (fun l => l[i]?) ht
      simpa only [List.getElem?_take, if_pos (show i < n by omega)] using this
  · rw [if_neg hi, if_neg hi]
theorem u8_bounds {l : List Int} (h : ∀ x ∈ l, 0 ≤ x ∧ x ≤ 255) (n : Nat) : 0 ≤ l.getD n 0 ∧ l.getD n 0 ≤ 255 := by
  rw [List.getD_eq_getElem?_getD]
  cases e : l[n]? with
  | none => simp
  | some x =>
    exact h x (List.mem_of_getElem? e)
theorem getD_map {α β : Type} (c : α → β) (l : List α) (n : Nat) (d : α) : (l.map c).getD n (c d) = c (l.getD n d) := by
  simp only [List.getD_eq_getElem?_getD, List.getElem?_map]
  cases l[n]? <;> rfl
/-- It ends, with true just where p holds. -/
def EvB (g : Nat → Option Bool) (p : Prop) : Prop := ∃ b, Ev g b ∧ (b = true ↔ p)
theorem EvB.iff {g : Nat → Option Bool} {p q : Prop} (h : EvB g p) (h' : p ↔ q) : EvB g q := by
  obtain ⟨b, hb, ib⟩ := h
  exact ⟨b, hb, ib.trans h'⟩
theorem EvB.dec {c : Prop} [Decidable c] : EvB (fun _ => some (decide c)) c := ⟨decide c, Ev.now _, decide_eq_true_iff⟩
theorem EvB.ite {c : Prop} [Decidable c] {A : Nat → Option Bool} {p : Prop} (h : EvB A p) : EvB (fun n => if c then A n else some false) (c ∧ p) := by
  obtain ⟨b, hb, ib⟩ := h
  by_cases hc : c
  · exact ⟨b, ev_pos hc hb, ⟨fun h => ⟨hc, ib.1 h⟩, fun h => ib.2 h.2⟩⟩
  · exact ⟨false, ev_neg hc (Ev.now _), ⟨fun h => (Bool.false_ne_true h).elim, fun h => absurd h.1 hc⟩⟩
theorem EvB.ite_not {c : Prop} [Decidable c] {A : Nat → Option Bool} {p : Prop} (h : EvB A p) : EvB (fun n => if c then some false else A n) (¬ c ∧ p) := by
  obtain ⟨b, hb, ib⟩ := h
  by_cases hc : c
  · exact ⟨false, ev_pos hc (Ev.now _), ⟨fun h => (Bool.false_ne_true h).elim, fun h => absurd hc h.1⟩⟩
  · exact ⟨b, ev_neg hc hb, ⟨fun h => ⟨hc, ib.1 h⟩, fun h => ib.2 h.2⟩⟩
theorem EvB.bind {g A : Nat → Option Bool} {p q : Prop} (h : EvB g p) (h' : EvB A q) : EvB (fun n => (g n).bind fun t => if t = true then A n else some false) (p ∧ q) := by
  obtain ⟨b, hb, ib⟩ := h
  obtain ⟨c, hc, ic⟩ := h'
  cases b with
  | true => exact ⟨c, Ev.bind hb (ev_pos rfl hc), ⟨fun h => ⟨ib.1 rfl, ic.1 h⟩, fun h => ic.2 h.2⟩⟩
  | false => exact ⟨false, Ev.bind hb (ev_neg (by decide) (Ev.now _)), ⟨fun h => (Bool.false_ne_true h).elim, fun h => absurd (ib.2 h.1) (by decide)⟩⟩
theorem EvB.last {g : Nat → Option Bool} {p : Prop} (h : EvB g p) : EvB (fun n => (g n).bind fun t => some t) p := by
  obtain ⟨b, hb, ib⟩ := h
  exact ⟨b, Ev.bind hb (Ev.now _), ib⟩
theorem EvB.same {g g' : Nat → Option Bool} {p : Prop} (h : EvB g p) (h' : EvB g' p) : ∃ b, Ev g b ∧ Ev g' b ∧ (b = true ↔ p) := by
  obtain ⟨b, hb, ib⟩ := h
  obtain ⟨c, hc, ic⟩ := h'
  obtain rfl : c = b := bool_eq_of_iff ic ib
  exact ⟨c, hb, hc, ib⟩
theorem EvB.bindE {g A B : Nat → Option Bool} {p q : Prop} (hB : Ev B false) (h : EvB g p) (h' : EvB A q) : EvB (fun n => (g n).bind fun t => if t = true then A n else B n) (p ∧ q) := by
  obtain ⟨b, hb, ib⟩ := h
  obtain ⟨c, hc, ic⟩ := h'
  cases b with
  | true => exact ⟨c, Ev.bind hb (ev_pos rfl hc), ⟨fun h => ⟨ib.1 rfl, ic.1 h⟩, fun h => ic.2 h.2⟩⟩
  | false => exact ⟨false, Ev.bind hb (ev_neg (by decide) hB), ⟨fun h => (Bool.false_ne_true h).elim, fun h => absurd (ib.2 h.1) (by decide)⟩⟩
theorem EvB.iteE {c : Prop} [Decidable c] {A B : Nat → Option Bool} {p : Prop} (hB : Ev B false) (h : EvB A p) : EvB (fun n => if c then A n else B n) (c ∧ p) := by
  obtain ⟨b, hb, ib⟩ := h
  by_cases hc : c
  · exact ⟨b, ev_pos hc hb, ⟨fun h => ⟨hc, ib.1 h⟩, fun h => ib.2 h.2⟩⟩
  · exact ⟨false, ev_neg hc hB, ⟨fun h => (Bool.false_ne_true h).elim, fun h => absurd h.1 hc⟩⟩
theorem EvB.bindN {g : Nat → Option Bool} {J : Nat → Bool → Option Bool} {p q : Prop} (hB : Ev (fun n => J n true) false) (h : EvB g p) (h' : EvB (fun n => J n false) q) : EvB (fun n => (g n).bind fun t => J n (!t)) (p ∧ q) := by
  obtain ⟨b, hb, ib⟩ := h
  obtain ⟨c, hc, ic⟩ := h'
  cases b with
  | true => exact ⟨c, Ev.bind hb hc, ⟨fun h => ⟨ib.1 rfl, ic.1 h⟩, fun h => ic.2 h.2⟩⟩
  | false => exact ⟨false, Ev.bind hb hB, ⟨fun h => (Bool.false_ne_true h).elim, fun h => absurd (ib.2 h.1) (by decide)⟩⟩
theorem EvB.succ {g : Nat → Option Bool} {p : Prop} (h : EvB (fun k => g (k + 1)) p) : EvB g p := by
  obtain ⟨b, hb, ib⟩ := h
  exact ⟨b, ev_succ hb, ib⟩
theorem EvB.true_ {p : Prop} (h : p) : EvB (fun _ => some true) p := ⟨true, Ev.now _, ⟨fun _ => h, fun _ => rfl⟩⟩
theorem EvB.false_ {p : Prop} (h : ¬ p) : EvB (fun _ => some false) p := ⟨false, Ev.now _, ⟨fun e => (Bool.false_ne_true e).elim, fun e => absurd e h⟩⟩
theorem EvB.pos {c : Prop} [Decidable c] {A B : Nat → Option Bool} {p : Prop} (hc : c) (h : EvB A p) : EvB (fun n => if c then A n else B n) p := by
  simpa only [if_pos hc] using h
theorem EvB.neg {c : Prop} [Decidable c] {A B : Nat → Option Bool} {p : Prop} (hc : ¬ c) (h : EvB B p) : EvB (fun n => if c then A n else B n) p := by
  simpa only [if_neg hc] using h

theorem wrap_i64_eq (n : Int) : IntKind.i64.wrap n = wrap64 n := by
  rw [IntKind.wrap_i64, wrap64]
theorem and_255 (x : Int) : 0 ≤ Go.bits .and .i64 x 255 ∧ Go.bits .and .i64 x 255 ≤ 255 := by
  have h : (BitVec.ofInt 64 x &&& BitVec.ofInt 64 255).toNat ≤ 255 := by
    rw [BitVec.toNat_and]
    exact Nat.le_trans Nat.and_le_right (by decide)
  show 0 ≤ IntKind.i64.wrap ((BitVec.ofInt 64 x &&& BitVec.ofInt 64 255).toNat : Int) ∧ IntKind.i64.wrap ((BitVec.ofInt 64 x &&& BitVec.ofInt 64 255).toNat : Int) ≤ 255
  generalize (BitVec.ofInt 64 x &&& BitVec.ofInt 64 255).toNat = m at h
  rw [wrap_i64_eq, w64 (by omega) (by omega)]
  omega
theorem new_loop (l : List Int) (hl : l.length ≤ 1048576) : ∀ (d n : Nat) (s : Int), n + d = l.length → ∃ s', Ev (fun k => spec_l1New.l0 k l s (n : Int)) (l, 0, s') := by
  intro d
  induction d with
  | zero =>
    intro n s hn
    refine ⟨s, ev_succ ?_⟩
    simp only [spec_l1New.l0]
    exact ev_neg (by omega) (Ev.now _)
  | succ d ih =>
    intro n s hn
    by_cases h : (n : Int) < 4000
    · obtain ⟨s', e⟩ := ih (n + 1) (Go.bits .and .i64 (wrap64 ((wrap64 ((wrap64 (s * 131)) + (wrap64 (rd l (n : Int))))) + 7)) 1073741823) (by omega)
      refine ⟨s', ev_succ ?_⟩
      simp only [spec_l1New.l0]
      rw [w64_succ (m := l.length) (n := n) (by omega) (by omega)]
      exact ev_pos (by omega) (ev_pos h (ev_pos (by omega) e))
    · refine ⟨s, ev_succ ?_⟩
      simp only [spec_l1New.l0]
      exact ev_pos (by omega) (ev_neg h (Ev.now _))
theorem new_ev (l : List Int) (hl : l.length ≤ 1048576) : ∃ s, Ev (fun k => spec_l1New.f k l) (l, 0, s) := by
  unfold spec_l1New.f
  exact new_loop l hl l.length 0 _ (by omega)
def At_ (l : List Int) (pos : Int) : Prop := 0 ≤ pos ∧ pos ≤ l.length
theorem byte_eq {l : List Int} (hl : l.length ≤ 1048576) {pos : Int} (hp : At_ l pos) (s : Int) : ∃ b pos' s', spec_l1Byte.f l pos s = some (b, pos', s') ∧ 0 ≤ b ∧ b ≤ 255 ∧ At_ l pos' := by
  obtain ⟨h0, h1⟩ := hp
  unfold spec_l1Byte.f
  by_cases h : pos < (l.length : Int)
  · rw [if_pos h, if_pos h0]
    refine ⟨_, _, _, rfl, (and_255 _).1, (and_255 _).2, ?_⟩
    rw [w64 (by omega) (by omega)]
    exact ⟨by omega, by omega⟩
  · rw [if_neg h]
    exact ⟨_, _, _, rfl, (and_255 _).1, (and_255 _).2, h0, h1⟩
theorem tmod_bd {x a : Int} (h0 : 0 ≤ x) (ha : 1 ≤ a) : 0 ≤ Int.tmod x a ∧ Int.tmod x a < a := by
  rw [Int.tmod_eq_emod_of_nonneg h0]
  exact ⟨Int.emod_nonneg _ (by omega), Int.emod_lt_of_pos _ (by omega)⟩
theorem below_eq {l : List Int} (hl : l.length ≤ 1048576) {pos : Int} (hp : At_ l pos) (s : Int) {a : Int} (ha : 1 ≤ a) : ∃ v pos' s', spec_l1Below.f l pos s a = some (v, pos', s') ∧ 0 ≤ v ∧ v < a ∧ At_ l pos' := by
  unfold spec_l1Below.f
  rw [if_neg (by omega)]
  obtain ⟨b0, p0, s0, e0, l0, u0, q0⟩ := byte_eq hl hp s
  obtain ⟨b1, p1, s1, e1, l1, u1, q1⟩ := byte_eq hl q0 s0
  obtain ⟨b2, p2, s2, e2, l2, u2, q2⟩ := byte_eq hl q1 s1
  obtain ⟨b3, p3, s3, e3, l3, u3, q3⟩ := byte_eq hl q2 s2
  by_cases h : a ≤ 256
  · rw [if_pos h, e0]
    simp only [Option.bind_some]
    rw [if_neg (by omega)]
    obtain ⟨t0, t1⟩ := tmod_bd l0 ha
    exact ⟨_, _, _, rfl, t0, t1, q0⟩
  · rw [if_neg h, e0]
    simp only [Option.bind_some, e1, e2, e3]
    rw [if_neg (by omega)]
    have w0 : wrap64 (b0 * 16777216) = b0 * 16777216 := w64 (by omega) (by omega)
    have w1 : wrap64 (b1 * 65536) = b1 * 65536 := w64 (by omega) (by omega)
    have w2 : wrap64 (b2 * 256) = b2 * 256 := w64 (by omega) (by omega)
    have w3 : wrap64 (b0 * 16777216 + b1 * 65536) = b0 * 16777216 + b1 * 65536 := w64 (by omega) (by omega)
    have w4 : wrap64 (b0 * 16777216 + b1 * 65536 + b2 * 256) = b0 * 16777216 + b1 * 65536 + b2 * 256 := w64 (by omega) (by omega)
    have w5 : wrap64 (b0 * 16777216 + b1 * 65536 + b2 * 256 + b3) = b0 * 16777216 + b1 * 65536 + b2 * 256 + b3 := w64 (by omega) (by omega)
    rw [w0, w1, w2, w3, w4, w5]
    obtain ⟨t0, t1⟩ := tmod_bd (x := b0 * 16777216 + b1 * 65536 + b2 * 256 + b3) (by omega) ha
    exact ⟨_, _, _, rfl, t0, t1, q3⟩

theorem same_self (x : Fl) : laws_sameBits.f x x = some true := by
  unfold laws_sameBits.f
  by_cases h : fcmp .eql .f64 x x = true
  · rw [if_pos h]
  · have h2 : fcmp .neq .f64 x x = true := by
      unfold fcmp at h ⊢
      dsimp only at h ⊢
      cases q : ford .f64 x x with
      | none => rfl
      | some o => rw [q] at h; cases o <;> first | rfl | exact absurd rfl h
    rw [if_neg h, if_pos h2, h2]
/-! what the draws answer -/
theorem once_eq {l : List Int} (hl : l.length ≤ 1048576) {pos : Int} (hp : At_ l pos) (s : Int) {a : Int} (ha : 1 ≤ a) : ∃ b pos' s', spec_l1Once.f l pos s a = some (b, pos', s') ∧ At_ l pos' := by
  obtain ⟨v, p, q, e, _, _, h⟩ := below_eq hl hp s ha
  unfold spec_l1Once.f
  rw [e]
  exact ⟨_, _, _, rfl, h⟩
theorem float_up (l : List Int) (p s : Int) : ∀ (n : Nat) (x : Fl), n ≤ 1000 → ∃ y, Ev (fun k => spec_l4DrawFloat.l0 k x (n : Int) l p s) (y, p, s) := by
  intro n
  induction n with
  | zero =>
    intro x _
    refine ⟨x, ev_succ ?_⟩
    simp only [spec_l4DrawFloat.l0]
    exact ev_neg (by omega) (Ev.now _)
  | succ n ih =>
    intro x hn
    obtain ⟨y, h⟩ := ih (fop .mul .f32 x (cn .f32 1082130432)) (by omega)
    refine ⟨y, ev_succ ?_⟩
    simp only [spec_l4DrawFloat.l0]
    rw [show wrap64 (((n + 1 : Nat) : Int) - 1) = (n : Int) by rw [w64 (by omega) (by omega)]; omega]
    exact ev_pos (by omega) h
theorem float_down (l : List Int) (p s : Int) : ∀ (n : Nat) (x : Fl), n ≤ 1000 → ∃ y, Ev (fun k => spec_l4DrawFloat.l1 k x (n : Int) l p s) (y, p, s) := by
  intro n
  induction n with
  | zero =>
    intro x _
    refine ⟨x, ev_succ ?_⟩
    simp only [spec_l4DrawFloat.l1]
    exact ev_neg (by omega) (Ev.now _)
  | succ n ih =>
    intro x hn
    obtain ⟨y, h⟩ := ih (fop .quo .f32 x (cn .f32 1082130432)) (by omega)
    refine ⟨y, ev_succ ?_⟩
    simp only [spec_l4DrawFloat.l1]
    rw [show wrap64 (((n + 1 : Nat) : Int) - 1) = (n : Int) by rw [w64 (by omega) (by omega)]; omega]
    exact ev_pos (by omega) h
theorem odd_eq (n : Int) (x : Fl) : ∃ y, spec_l4Odd.f n x = some y := by
  unfold spec_l4Odd.f
  split
  · exact ⟨_, rfl⟩
  · split
    · exact ⟨_, rfl⟩
    · split <;> exact ⟨_, rfl⟩
theorem float_j2 {l : List Int} (hl : l.length ≤ 1048576) {pos : Int} (hp : At_ l pos) (s : Int) (b : Bool) : ∃ x pos' s', Ev (fun k => spec_l4DrawFloat.j2 k b l pos s) (x, pos', s') ∧ At_ l pos' := by
  cases b with
  | true =>
    obtain ⟨v, p, q, e, _, _, h⟩ := below_eq hl hp s (a := 81) (by decide)
    refine ⟨fop .quo .f32 (fint .f32 (wrap64 (v - 40))) (cn .f32 1090519040), p, q, ev_succ ?_, h⟩
    simp only [spec_l4DrawFloat.j2, e, Option.bind_some]
    exact ev_pos (by trivial) (Ev.now _)
  | false =>
    obtain ⟨v, p, q, e, _, _, h⟩ := below_eq hl hp s (a := 21) (by decide)
    refine ⟨fint .f32 (wrap64 (v - 10)), p, q, ev_succ ?_, h⟩
    simp only [spec_l4DrawFloat.j2, e, Option.bind_some]
    exact ev_neg (by decide) (Ev.now _)
theorem float_ev {l : List Int} (hl : l.length ≤ 1048576) {pos : Int} (hp : At_ l pos) (s : Int) : ∃ x pos' s', Ev (fun k => spec_l4DrawFloat.f k l pos s) (x, pos', s') ∧ At_ l pos' := by
  unfold spec_l4DrawFloat.f
  obtain ⟨v, p, q, e, v0, v1, h⟩ := below_eq hl hp s (a := 9) (by decide)
  simp only [e, Option.bind_some]
  by_cases c0 : v = 0
  · obtain ⟨u, p1, q1, e1, _, _, h1⟩ := below_eq hl h q (a := 2001) (by decide)
    simp only [e1, Option.bind_some]
    exact ⟨_, _, _, ev_pos c0 (Ev.now _), h1⟩
  by_cases c1 : v = 1
  · obtain ⟨u, p1, q1, e1, _, _, h1⟩ := below_eq hl h q (a := 2001) (by decide)
    obtain ⟨t, p2, q2, e2, t0, t1, h2⟩ := below_eq hl h1 q1 (a := 60) (by decide)
    simp only [e1, e2, Option.bind_some]
    obtain ⟨y, hy⟩ := float_up l p2 q2 t.toNat (fop .quo .f32 (fint .f32 (wrap64 (u - 1000))) (cn .f32 1077936128)) (by omega)
    rw [Int.toNat_of_nonneg t0] at hy
    exact ⟨_, _, _, ev_neg c0 (ev_pos c1 hy), h2⟩
  by_cases c2 : v = 2
  · obtain ⟨u, p1, q1, e1, _, _, h1⟩ := below_eq hl h q (a := 2001) (by decide)
    obtain ⟨t, p2, q2, e2, t0, t1, h2⟩ := below_eq hl h1 q1 (a := 80) (by decide)
    simp only [e1, e2, Option.bind_some]
    obtain ⟨y, hy⟩ := float_down l p2 q2 t.toNat (fop .quo .f32 (fint .f32 (wrap64 (u - 1000))) (cn .f32 1077936128)) (by omega)
    rw [Int.toNat_of_nonneg t0] at hy
    exact ⟨_, _, _, ev_neg c0 (ev_neg c1 (ev_pos c2 hy)), h2⟩
  by_cases c3 : v = 3
  · obtain ⟨u, p1, q1, e1, h1⟩ := once_eq hl h q (a := 5) (by decide)
    simp only [e1, Option.bind_some]
    cases u with
    | true =>
      obtain ⟨t, p2, q2, e2, t0, t1, h2⟩ := below_eq hl h1 q1 (a := 4) (by decide)
      obtain ⟨y, hy⟩ := odd_eq t (cn .f32 0)
      simp only [e2, hy, Option.bind_some]
      exact ⟨_, _, _, ev_neg c0 (ev_neg c1 (ev_neg c2 (ev_pos c3 (ev_pos (by trivial) (Ev.now _))))), h2⟩
    | false =>
      obtain ⟨t, p2, q2, e2, t0, t1, h2⟩ := below_eq hl h1 q1 (a := 21) (by decide)
      simp only [e2, Option.bind_some]
      exact ⟨_, _, _, ev_neg c0 (ev_neg c1 (ev_neg c2 (ev_pos c3 (ev_neg (by decide) (Ev.now _))))), h2⟩
  by_cases c4 : v = 4
  · obtain ⟨x, p1, q1, hx, h1⟩ := float_j2 hl h q true
    exact ⟨_, _, _, ev_neg c0 (ev_neg c1 (ev_neg c2 (ev_neg c3 (ev_pos c4 hx)))), h1⟩
  · obtain ⟨x, p1, q1, hx, h1⟩ := float_j2 hl h q (v == 5)
    exact ⟨_, _, _, ev_neg c0 (ev_neg c1 (ev_neg c2 (ev_neg c3 (ev_neg c4 hx)))), h1⟩

/-! whole numbers in floating point: what is exact -/
open Ieee (Datum) in
/-- What a datum stands for is n * 2 ^ e. -/
def RepE (D : Datum) (n e : Int) : Prop := ∃ s m p, ∃ a b : Nat, D = .number s m p ∧ (a : Int) + e = b + p ∧ Ieee.signed s m a = n * 2 ^ b
/-- What a datum stands for is the whole number n. -/
abbrev Rep (D : Ieee.Datum) (n : Int) : Prop := RepE D n 0
def sg (s : Bool) : Int := if s then -1 else 1
theorem signed_eq (s : Bool) (m a : Nat) : Ieee.signed s m a = sg s * m * 2 ^ a := by
  unfold Ieee.signed sg
  rw [Nat.shiftLeft_eq]
  split
  · rw [Int.natCast_mul, Int.natCast_pow]; show -((m : Int) * 2 ^ a) = _; rw [Int.neg_mul, Int.one_mul, Int.neg_mul]
  · rw [Int.natCast_mul, Int.natCast_pow, Int.one_mul]; rfl
theorem p2 (b : Nat) : (0 : Int) < 2 ^ b := Int.pow_pos (by decide)
theorem cancel2 {x y : Int} (b : Nat) (h : x * 2 ^ b = y * 2 ^ b) : x = y := Int.eq_of_mul_eq_mul_right (Int.ne_of_gt (p2 b)) h
theorem sg_sq (s : Bool) : sg s * sg s = 1 := by cases s <;> rfl
theorem sg_xor (s t : Bool) : sg (s ^^ t) = sg s * sg t := by cases s <;> cases t <;> rfl
/-- All ways to write the place are alike. -/
theorem rep_all {s : Bool} {m : Nat} {p n e : Int} (h : RepE (.number s m p) n e) (a b : Nat) (hab : (a : Int) + e = b + p) : sg s * m * 2 ^ a = n * 2 ^ b := by
  obtain ⟨s', m', p', a', b', hD, hp, hv⟩ := h
  cases hD
  rw [signed_eq] at hv
  apply cancel2 b'
  have e : a + b' = a' + b := by omega
  rw [Int.mul_assoc, ← Int.pow_add, e, Int.pow_add, ← Int.mul_assoc, hv, Int.mul_assoc, Int.mul_comm (2 ^ b') (2 ^ b), ← Int.mul_assoc]
theorem rep_of {s : Bool} {m : Nat} {p n e : Int} (a b : Nat) (hab : (a : Int) + e = b + p) (h : sg s * m * 2 ^ a = n * 2 ^ b) : RepE (.number s m p) n e := ⟨s, m, p, a, b, rfl, hab, by rw [signed_eq]; exact h⟩
theorem rep_num {D : Ieee.Datum} {n e : Int} (h : RepE D n e) : ∃ s m p, D = .number s m p := by
  obtain ⟨s, m, p, _, _, h, _⟩ := h
  exact ⟨s, m, p, h⟩
theorem sg_natAbs (n : Int) : sg (decide (n < 0)) * n.natAbs = n := by
  unfold sg
  by_cases h : n < 0
  · simp only [h, decide_true, if_true]; omega
  · simp only [h, decide_false]; simp; omega
theorem rep_opp {D : Ieee.Datum} {n e : Int} (h : RepE D n e) : RepE D.opposite (-n) e := by
  obtain ⟨s, m, p, rfl⟩ := rep_num h
  refine rep_of ((p - e).toNat) ((e - p).toNat) (by omega) ?_
  have := rep_all h (p - e).toNat (e - p).toNat (by omega)
  rw [Int.neg_mul, ← this, show sg (!s) = -sg s by cases s <;> rfl, Int.neg_mul, Int.neg_mul]
theorem rep_sum {D E : Ieee.Datum} {x y e : Int} (h : RepE D x e) (h' : RepE E y e) : ∃ S, D.sum E = some S ∧ RepE S (x + y) e := by
  obtain ⟨s, m, i, rfl⟩ := rep_num h
  obtain ⟨t, n, j, rfl⟩ := rep_num h'
  refine ⟨_, rfl, ?_⟩
  refine rep_of (min i j - e).toNat (e - min i j).toNat (by omega) ?_
  generalize hT : Ieee.signed s m (i - min i j).toNat + Ieee.signed t n (j - min i j).toNat = T
  have e1 := rep_all h ((i - min i j).toNat + (min i j - e).toNat) (e - min i j).toNat (by omega)
  have e2 := rep_all h' ((j - min i j).toNat + (min i j - e).toNat) (e - min i j).toNat (by omega)
  have e0 : sg (if T = 0 then s && t else decide (T < 0)) * T.natAbs = T := by
    split
    · rename_i h0; rw [h0]; simp
    · exact sg_natAbs T
  rw [e0, ← hT, signed_eq, signed_eq, Int.add_mul, Int.mul_assoc, ← Int.pow_add, e1, Int.mul_assoc (sg t * n), ← Int.pow_add, e2, Int.add_mul]
theorem rep_product {D E : Ieee.Datum} {x y e d : Int} (h : RepE D x e) (h' : RepE E y d) : ∃ S, D.product E = some S ∧ RepE S (x * y) (e + d) := by
  obtain ⟨s, m, i, rfl⟩ := rep_num h
  obtain ⟨t, n, j, rfl⟩ := rep_num h'
  refine ⟨_, rfl, ?_⟩
  have e1 := rep_all h (i - e).toNat (e - i).toNat (by omega)
  have e2 := rep_all h' (j - d).toNat (d - j).toNat (by omega)
  refine rep_of ((i - e).toNat + (j - d).toNat) ((e - i).toNat + (d - j).toNat) (by omega) ?_
  rw [sg_xor, Int.natCast_mul, Int.pow_add, Int.pow_add]
  calc sg s * sg t * ((m : Int) * n) * (2 ^ (i - e).toNat * 2 ^ (j - d).toNat) = (sg s * m * 2 ^ (i - e).toNat) * (sg t * n * 2 ^ (j - d).toNat) := by ac_rfl
    _ = x * y * (2 ^ (e - i).toNat * 2 ^ (d - j).toNat) := by rw [e1, e2]; ac_rfl
theorem log2_mul2 {m : Nat} (h : m ≠ 0) (a : Nat) : (m * 2 ^ a).log2 = m.log2 + a := by
  induction a with
  | zero => simp
  | succ a ih =>
    rw [Nat.pow_succ, ← Nat.mul_assoc, Nat.mul_comm, Nat.log2_two_mul (by have := Nat.two_pow_pos a; exact Nat.mul_ne_zero h (by omega)), ih]
    omega
theorem cut_exact (s : Bool) (N d : Nat) (hN : 0 < N) : Ieee.Toward.even.cut s (N * 2 ^ d) d = N := by
  have hl : min d ((N * 2 ^ d).log2 + 2) = d := by rw [log2_mul2 (by omega)]; omega
  have hp := Nat.two_pow_pos d
  unfold Ieee.Toward.cut
  simp only [hl, Nat.shiftLeft_eq, Nat.one_mul, Nat.mul_mod_left, Nat.mul_div_cancel _ hp, Nat.mul_zero]
  have h1 : decide (2 ^ d < 0) = false := by simp
  have h2 : (2 ^ d == 0) = false := by simp
  simp [h1, h2]
theorem read_word {s : Bool} {k L : Nat} (h1 : L = 0 ∨ 2 ^ 52 ≤ k) (h2 : k < 2 ^ 53) (h3 : L ≤ 2045) : Ieee.double.read (Ieee.double.word s (L * 2 ^ 52 + k)) = .number s k (-1074 + L) := by
  have hw : Ieee.double.signWeight = 2 ^ 63 := rfl
  have hb : Ieee.double.binade = 2 ^ 52 := rfl
  have hi : Ieee.double.infRung = 2047 * 2 ^ 52 := rfl
  have hp : Ieee.double.leastPlace = -1074 := rfl
  have hr : Ieee.double.word s (L * 2 ^ 52 + k) % 2 ^ 63 = L * 2 ^ 52 + k := by
    unfold Ieee.Format.word; rw [hw]; split <;> omega
  have hs : (Ieee.double.word s (L * 2 ^ 52 + k) / 2 ^ 63 % 2 == 1) = s := by
    unfold Ieee.Format.word; rw [hw]; cases s
    · simp only [Bool.false_eq_true, if_false, beq_eq_false_iff_ne]; omega
    · simp only [if_true, beq_iff_eq]; omega
  unfold Ieee.Format.read
  simp only [hw, hb, hi, hp, hr, hs]
  by_cases hk : L * 2 ^ 52 + k < 2 ^ 52
  · rw [if_pos hk, show L = 0 by omega]; simp
  · rw [if_neg hk, if_pos (by omega), show 2 ^ 52 + (L * 2 ^ 52 + k) % 2 ^ 52 = k by omega, show (L * 2 ^ 52 + k) / 2 ^ 52 - 1 = L by omega]
theorem rep_write {s : Bool} {m : Nat} {p n e : Int} (h : RepE (.number s m p) n e) (hn : n.natAbs < 2 ^ 53) (he : -1074 ≤ e) (he' : e ≤ 104) : RepE (Ieee.double.read (Ieee.double.nearest s m p)) n e := by
  unfold Ieee.Format.nearest
  by_cases hm : m = 0
  · rw [if_pos hm]
    have e1 := rep_all h (p - e).toNat (e - p).toNat (by omega)
    rw [hm] at e1
    have : n = 0 := cancel2 (e - p).toNat (by rw [← e1]; simp)
    rw [this]
    exact ⟨s, 0, -1074, 0, (1074 + e).toNat, by cases s <;> rfl, by omega, by rw [signed_eq]; simp⟩
  rw [if_neg hm]
  have e1 := rep_all h (p - e).toNat (e - p).toNat (by omega)
  have hab : ∀ a b : Nat, (a : Int) + e = b + p → m * 2 ^ a = n.natAbs * 2 ^ b := by
    intro a b hab
    have e2 := congrArg Int.natAbs (rep_all h a b hab)
    rw [Int.natAbs_mul, Int.natAbs_mul, Int.natAbs_mul, show (sg s).natAbs = 1 by cases s <;> rfl, Nat.one_mul, Int.natAbs_natCast, Int.natAbs_pow, Int.natAbs_pow] at e2
    exact e2
  have hN : n.natAbs ≠ 0 := by
    intro h0
    have := hab (p - e).toNat (e - p).toNat (by omega)
    rw [h0, Nat.zero_mul] at this
    have h2 := Nat.two_pow_pos (p - e).toNat
    exact (Nat.mul_ne_zero hm (by omega)) this
  have hsg : sg s * n.natAbs = n := by
    apply cancel2 (e - p).toNat
    have e2 := hab (p - e).toNat (e - p).toNat (by omega)
    have e3 : (m : Int) * 2 ^ (p - e).toNat = n.natAbs * 2 ^ (e - p).toNat := by have := congrArg (fun z : Nat => (z : Int)) e2; simpa [Int.natCast_mul, Int.natCast_pow] using this
    rw [Int.mul_assoc, ← e3, ← e1, Int.mul_assoc]
  generalize hNN : n.natAbs = N at *
  have ht : p + m.log2 = N.log2 + e := by
    have e2 := congrArg Nat.log2 (hab (p - e).toNat (e - p).toNat (by omega))
    rw [log2_mul2 hm, log2_mul2 hN] at e2
    omega
  have htt : N.log2 ≤ 52 := by have := (Nat.log2_lt hN).2 hn; omega
  have hlast : max (p + m.log2 - Ieee.double.fractionBits) Ieee.double.leastPlace = max ((N.log2 : Int) + e - 52) (-1074) := by
    rw [ht]; rfl
  dsimp only
  rw [hlast]
  generalize hl : max ((N.log2 : Int) + e - 52) (-1074) = l
  have hle : l ≤ e := by omega
  have hkept : Ieee.Toward.even.cut s (m <<< (p - l).toNat) (l - p).toNat = N * 2 ^ (e - l).toNat := by
    rw [Nat.shiftLeft_eq]
    by_cases hp : l ≤ p
    · rw [show (l - p).toNat = 0 by omega, hab (p - l).toNat (e - l).toNat (by omega)]
      have := cut_exact s (N * 2 ^ (e - l).toNat) 0 (by have := Nat.two_pow_pos (e - l).toNat; exact Nat.pos_of_ne_zero (Nat.mul_ne_zero hN (by omega)))
      simpa using this
    · rw [show (p - l).toNat = 0 by omega]
      have e2 := hab 0 (e - p).toNat (by omega)
      rw [e2, show (e - p).toNat = (e - l).toNat + (l - p).toNat by omega, Nat.pow_add, ← Nat.mul_assoc]
      exact cut_exact s _ _ (by have := Nat.two_pow_pos (e - l).toNat; exact Nat.pos_of_ne_zero (Nat.mul_ne_zero hN (by omega)))
  rw [hkept]
  have hk1 : (l + 1074).toNat = 0 ∨ 2 ^ 52 ≤ N * 2 ^ (e - l).toNat := by
    by_cases hl0 : l + 1074 ≤ 0
    · exact .inl (by omega)
    refine .inr ?_
    have h1 : 2 ^ N.log2 ≤ N := Nat.log2_self_le hN
    have h2 := Nat.mul_le_mul_right (2 ^ (e - l).toNat) h1
    rwa [← Nat.pow_add, show N.log2 + (e - l).toNat = 52 by omega] at h2
  have hk2 : N * 2 ^ (e - l).toNat < 2 ^ 53 := by
    have h1 : N < 2 ^ (N.log2 + 1) := Nat.lt_log2_self
    have h2 := Nat.mul_lt_mul_of_pos_right h1 (Nat.two_pow_pos (e - l).toNat)
    rw [← Nat.pow_add] at h2
    exact Nat.lt_of_lt_of_le h2 (Nat.pow_le_pow_right (by decide) (by omega))
  have hL : (l - Ieee.double.leastPlace).toNat = (l + 1074).toNat := by
    rw [show Ieee.double.leastPlace = -1074 from rfl]; omega
  rw [hL, show Ieee.double.binade = 2 ^ 52 from rfl, show Ieee.double.infRung = 2047 * 2 ^ 52 from rfl]
  have hll : (l + 1074).toNat ≤ 2045 := by omega
  rw [Nat.min_eq_left (by omega), read_word hk1 hk2 hll]
  refine rep_of 0 (e - l).toNat (by omega) ?_
  rw [Int.natCast_mul, Int.natCast_pow, Int.pow_zero, Int.mul_one, ← Int.mul_assoc, hsg]
  rfl
theorem read_word32 {s : Bool} {k L : Nat} (h1 : L = 0 ∨ 2 ^ 23 ≤ k) (h2 : k < 2 ^ 24) (h3 : L ≤ 253) : Ieee.single.read (Ieee.single.word s (L * 2 ^ 23 + k)) = .number s k (-149 + L) := by
  have hw : Ieee.single.signWeight = 2 ^ 31 := rfl
  have hb : Ieee.single.binade = 2 ^ 23 := rfl
  have hi : Ieee.single.infRung = 255 * 2 ^ 23 := rfl
  have hp : Ieee.single.leastPlace = -149 := rfl
  have hr : Ieee.single.word s (L * 2 ^ 23 + k) % 2 ^ 31 = L * 2 ^ 23 + k := by
    unfold Ieee.Format.word; rw [hw]; split <;> omega
  have hs : (Ieee.single.word s (L * 2 ^ 23 + k) / 2 ^ 31 % 2 == 1) = s := by
    unfold Ieee.Format.word; rw [hw]; cases s
    · simp only [Bool.false_eq_true, if_false, beq_eq_false_iff_ne]; omega
    · simp only [if_true, beq_iff_eq]; omega
  unfold Ieee.Format.read
  simp only [hw, hb, hi, hp, hr, hs]
  by_cases hk : L * 2 ^ 23 + k < 2 ^ 23
  · rw [if_pos hk, show L = 0 by omega]; simp
  · rw [if_neg hk, if_pos (by omega), show 2 ^ 23 + (L * 2 ^ 23 + k) % 2 ^ 23 = k by omega, show (L * 2 ^ 23 + k) / 2 ^ 23 - 1 = L by omega]
theorem rep_write32 {s : Bool} {m : Nat} {p n e : Int} (h : RepE (.number s m p) n e) (hn : n.natAbs < 2 ^ 24) (he : -149 ≤ e) (he' : e ≤ 104) : RepE (Ieee.single.read (Ieee.single.nearest s m p)) n e := by
  unfold Ieee.Format.nearest
  by_cases hm : m = 0
  · rw [if_pos hm]
    have e1 := rep_all h (p - e).toNat (e - p).toNat (by omega)
    rw [hm] at e1
    have : n = 0 := cancel2 (e - p).toNat (by rw [← e1]; simp)
    rw [this]
    exact ⟨s, 0, -149, 0, (149 + e).toNat, by cases s <;> rfl, by omega, by rw [signed_eq]; simp⟩
  rw [if_neg hm]
  have e1 := rep_all h (p - e).toNat (e - p).toNat (by omega)
  have hab : ∀ a b : Nat, (a : Int) + e = b + p → m * 2 ^ a = n.natAbs * 2 ^ b := by
    intro a b hab
    have e2 := congrArg Int.natAbs (rep_all h a b hab)
    rw [Int.natAbs_mul, Int.natAbs_mul, Int.natAbs_mul, show (sg s).natAbs = 1 by cases s <;> rfl, Nat.one_mul, Int.natAbs_natCast, Int.natAbs_pow, Int.natAbs_pow] at e2
    exact e2
  have hN : n.natAbs ≠ 0 := by
    intro h0
    have := hab (p - e).toNat (e - p).toNat (by omega)
    rw [h0, Nat.zero_mul] at this
    have h2 := Nat.two_pow_pos (p - e).toNat
    exact (Nat.mul_ne_zero hm (by omega)) this
  have hsg : sg s * n.natAbs = n := by
    apply cancel2 (e - p).toNat
    have e2 := hab (p - e).toNat (e - p).toNat (by omega)
    have e3 : (m : Int) * 2 ^ (p - e).toNat = n.natAbs * 2 ^ (e - p).toNat := by have := congrArg (fun z : Nat => (z : Int)) e2; simpa [Int.natCast_mul, Int.natCast_pow] using this
    rw [Int.mul_assoc, ← e3, ← e1, Int.mul_assoc]
  generalize hNN : n.natAbs = N at *
  have ht : p + m.log2 = N.log2 + e := by
    have e2 := congrArg Nat.log2 (hab (p - e).toNat (e - p).toNat (by omega))
    rw [log2_mul2 hm, log2_mul2 hN] at e2
    omega
  have htt : N.log2 ≤ 23 := by have := (Nat.log2_lt hN).2 hn; omega
  have hlast : max (p + m.log2 - Ieee.single.fractionBits) Ieee.single.leastPlace = max ((N.log2 : Int) + e - 23) (-149) := by
    rw [ht]; rfl
  dsimp only
  rw [hlast]
  generalize hl : max ((N.log2 : Int) + e - 23) (-149) = l
  have hle : l ≤ e := by omega
  have hkept : Ieee.Toward.even.cut s (m <<< (p - l).toNat) (l - p).toNat = N * 2 ^ (e - l).toNat := by
    rw [Nat.shiftLeft_eq]
    by_cases hp : l ≤ p
    · rw [show (l - p).toNat = 0 by omega, hab (p - l).toNat (e - l).toNat (by omega)]
      have := cut_exact s (N * 2 ^ (e - l).toNat) 0 (by have := Nat.two_pow_pos (e - l).toNat; exact Nat.pos_of_ne_zero (Nat.mul_ne_zero hN (by omega)))
      simpa using this
    · rw [show (p - l).toNat = 0 by omega]
      have e2 := hab 0 (e - p).toNat (by omega)
      rw [e2, show (e - p).toNat = (e - l).toNat + (l - p).toNat by omega, Nat.pow_add, ← Nat.mul_assoc]
      exact cut_exact s _ _ (by have := Nat.two_pow_pos (e - l).toNat; exact Nat.pos_of_ne_zero (Nat.mul_ne_zero hN (by omega)))
  rw [hkept]
  have hk1 : (l + 149).toNat = 0 ∨ 2 ^ 23 ≤ N * 2 ^ (e - l).toNat := by
    by_cases hl0 : l + 149 ≤ 0
    · exact .inl (by omega)
    refine .inr ?_
    have h1 : 2 ^ N.log2 ≤ N := Nat.log2_self_le hN
    have h2 := Nat.mul_le_mul_right (2 ^ (e - l).toNat) h1
    rwa [← Nat.pow_add, show N.log2 + (e - l).toNat = 23 by omega] at h2
  have hk2 : N * 2 ^ (e - l).toNat < 2 ^ 24 := by
    have h1 : N < 2 ^ (N.log2 + 1) := Nat.lt_log2_self
    have h2 := Nat.mul_lt_mul_of_pos_right h1 (Nat.two_pow_pos (e - l).toNat)
    rw [← Nat.pow_add] at h2
    exact Nat.lt_of_lt_of_le h2 (Nat.pow_le_pow_right (by decide) (by omega))
  have hL : (l - Ieee.single.leastPlace).toNat = (l + 149).toNat := by
    rw [show Ieee.single.leastPlace = -149 from rfl]; omega
  rw [hL, show Ieee.single.binade = 2 ^ 23 from rfl, show Ieee.single.infRung = 255 * 2 ^ 23 from rfl]
  have hll : (l + 149).toNat ≤ 253 := by omega
  rw [Nat.min_eq_left (by omega), read_word32 hk1 hk2 hll]
  refine rep_of 0 (e - l).toNat (by omega) ?_
  rw [Int.natCast_mul, Int.natCast_pow, Int.pow_zero, Int.mul_one, ← Int.mul_assoc, hsg]
  rfl
/-- The float is the whole number n. -/
def Z (x : Fl) (n : Int) : Prop := ∃ b, x = some b ∧ Rep (Ieee.double.read b) n
theorem rep_nan {D : Ieee.Datum} {n e : Int} (h : RepE D n e) : D.isNaN = false := by obtain ⟨s, m, p, rfl⟩ := rep_num h; rfl
theorem z_write {D : Ieee.Datum} {n : Int} (h : Rep D n) (hn : n.natAbs < 2 ^ 53) : Z (cn .f64 (Ieee.double.write D)) n := by
  obtain ⟨s, m, p, rfl⟩ := rep_num h
  have h2 := rep_write h hn (by decide) (by decide)
  exact ⟨_, cn_not (rep_nan h2), h2⟩
theorem rep_whole (n : Int) : Rep (.number (n < 0) n.natAbs 0) n := rep_of 0 0 rfl (by rw [sg_natAbs])
theorem z_fint {n : Int} (hn : n.natAbs < 2 ^ 53) : Z (fint .f64 n) n := z_write (rep_whole n) hn
theorem z_const {b : Nat} {n : Int} (h : Rep (Ieee.double.read b) n) : Z (cn .f64 b) n := ⟨b, cn_not (rep_nan h), h⟩
theorem z_zero : Z (cn .f64 0) 0 := z_const ⟨false, 0, -1074, 0, 1074, rfl, by decide, by rw [signed_eq, Int.zero_mul]; rfl⟩
theorem z_one : Z (cn .f64 4607182418800017408) 1 := z_const ⟨false, 4503599627370496, -52, 0, 52, rfl, by decide, by decide⟩
theorem z_op {op : BinOp} {g : Ieee.Format → Nat → Nat → Option Nat} (hop : ∀ a b, floatBits op .f64 a b = g Ieee.double a b) {a b : Nat} {S : Ieee.Datum} {n : Int} (hg : g Ieee.double a b = some (Ieee.double.write S)) (hS : Rep S n) (hn : n.natAbs < 2 ^ 53) : Z (fop op .f64 (some a) (some b)) n := by
  unfold fop
  show Z ((floatBits op .f64 a b).bind fun r => cn .f64 r) n
  rw [hop, hg]
  exact z_write hS hn
theorem z_add {x y : Fl} {m n : Int} (hx : Z x m) (hy : Z y n) (h : (m + n).natAbs < 2 ^ 53) : Z (fop .add .f64 x y) (m + n) := by
  obtain ⟨a, rfl, ha⟩ := hx
  obtain ⟨b, rfl, hb⟩ := hy
  obtain ⟨S, e, hS⟩ := rep_sum ha hb
  exact z_op (g := Ieee.Format.add) (fun _ _ => rfl) (by unfold Ieee.Format.add; rw [e]; rfl) hS h
theorem z_sub {x y : Fl} {m n : Int} (hx : Z x m) (hy : Z y n) (h : (m - n).natAbs < 2 ^ 53) : Z (fop .sub .f64 x y) (m - n) := by
  obtain ⟨a, rfl, ha⟩ := hx
  obtain ⟨b, rfl, hb⟩ := hy
  obtain ⟨S, e, hS⟩ := rep_sum ha (rep_opp hb)
  exact z_op (g := Ieee.Format.sub) (fun _ _ => rfl) (by unfold Ieee.Format.sub; rw [e]; rfl) hS h
theorem z_mul {x y : Fl} {m n : Int} (hx : Z x m) (hy : Z y n) (h : (m * n).natAbs < 2 ^ 53) : Z (fop .mul .f64 x y) (m * n) := by
  obtain ⟨a, rfl, ha⟩ := hx
  obtain ⟨b, rfl, hb⟩ := hy
  obtain ⟨S, e, hS⟩ := rep_product ha hb
  exact z_op (g := Ieee.Format.mul) (fun _ _ => rfl) (by unfold Ieee.Format.mul; rw [e]; rfl) hS h
theorem rep_order {D E : Ieee.Datum} {x y e : Int} (h : RepE D x e) (h' : RepE E y e) : D.order E = some (compare x y) := by
  obtain ⟨s, m, i, rfl⟩ := rep_num h
  obtain ⟨t, n, j, rfl⟩ := rep_num h'
  show some (compare (Ieee.signed s m (i - min i j).toNat) (Ieee.signed t n (j - min i j).toNat)) = _
  have e1 := rep_all h ((i - min i j).toNat + (min i j - e).toNat) (e - min i j).toNat (by omega)
  have e2 := rep_all h' ((j - min i j).toNat + (min i j - e).toNat) (e - min i j).toNat (by omega)
  rw [Int.pow_add, ← Int.mul_assoc, ← signed_eq] at e1 e2
  generalize Ieee.signed s m (i - min i j).toNat = X at *
  generalize Ieee.signed t n (j - min i j).toNat = Y at *
  have p1 := p2 (min i j - e).toNat
  have p3 := p2 (e - min i j).toNat
  have l : X < Y ↔ x < y := by
    constructor
    · intro h
      have h2 := Int.mul_lt_mul_of_pos_right h p1
      rw [e1, e2] at h2
      exact Int.lt_of_mul_lt_mul_right h2 (Int.le_of_lt p3)
    · intro h
      have h2 := Int.mul_lt_mul_of_pos_right h p3
      rw [← e1, ← e2] at h2
      exact Int.lt_of_mul_lt_mul_right h2 (Int.le_of_lt p1)
  have q : X = Y ↔ x = y := by
    constructor
    · intro h
      subst h
      exact cancel2 _ (e1.symm.trans e2)
    · intro h
      subst h
      exact cancel2 _ (e1.trans e2.symm)
  show some (compareOfLessAndEq X Y) = some (compareOfLessAndEq x y)
  unfold compareOfLessAndEq
  simp only [l, q]
theorem z_ord {x y : Fl} {m n : Int} (hx : Z x m) (hy : Z y n) : ford .f64 x y = some (compare m n) := by
  obtain ⟨a, rfl, ha⟩ := hx
  obtain ⟨b, rfl, hb⟩ := hy
  exact rep_order ha hb
theorem cmpI (m n : Int) : compare m n = if m < n then .lt else if m = n then .eq else .gt := rfl
theorem z_eql {x y : Fl} {m n : Int} (hx : Z x m) (hy : Z y n) : fcmp .eql .f64 x y = decide (m = n) := by
  unfold fcmp; simp only [z_ord hx hy, cmpI]
  by_cases h1 : m < n
  · have : m ≠ n := by omega
    simp [h1, this]
  · by_cases h2 : m = n <;> simp [h1, h2]
theorem z_neq {x y : Fl} {m n : Int} (hx : Z x m) (hy : Z y n) : fcmp .neq .f64 x y = decide (m ≠ n) := by
  unfold fcmp; simp only [z_ord hx hy, cmpI]
  by_cases h1 : m < n
  · have : m ≠ n := by omega
    simp [h1, this]
  · by_cases h2 : m = n <;> simp [h1, h2]
theorem z_lss {x y : Fl} {m n : Int} (hx : Z x m) (hy : Z y n) : fcmp .lss .f64 x y = decide (m < n) := by
  unfold fcmp; simp only [z_ord hx hy, cmpI]
  by_cases h1 : m < n
  · simp [h1]
  · by_cases h2 : m = n <;> simp [h1, h2]

/-! quotients and opposites of whole numbers -/
theorem rep_quotient {D E : Ieee.Datum} {q d : Int} (h : Rep D (q * d)) (h' : Rep E d) (hd : d ≠ 0) (hq : q.natAbs < 2 ^ 53) : ∃ S, D.quotient 54 E = some S ∧ Rep S q := by
  obtain ⟨s, m, i, rfl⟩ := rep_num h
  obtain ⟨t, n, j, rfl⟩ := rep_num h'
  have e1 := rep_all h i.toNat (-i).toNat (by omega)
  have e2 := rep_all h' j.toNat (-j).toNat (by omega)
  have hn : n ≠ 0 := by
    intro h0
    subst h0
    apply hd
    exact cancel2 (-j).toNat (by rw [← e2]; simp)
  show ∃ S, (if n = 0 then _ else _) = some S ∧ _
  rw [if_neg hn]
  refine ⟨_, rfl, ?_⟩
  by_cases hm : m = 0
  · subst hm
    have q0 : q * d = 0 := cancel2 (-i).toNat (by rw [← e1]; simp)
    have q1 : q = 0 := by rcases Int.mul_eq_zero.1 q0 with h | h; exact h; exact absurd h hd
    subst q1
    generalize i - j - ((54 + n.log2 - Nat.log2 0 : Nat) : Int) - 1 = p
    refine rep_of p.toNat (-p).toNat (by omega) ?_
    simp
  have hq0 : q ≠ 0 := by
    intro h0
    subst h0
    rw [Int.zero_mul, Int.zero_mul] at e1
    have := p2 i.toNat
    rcases Int.mul_eq_zero.1 e1 with h | h
    · rcases Int.mul_eq_zero.1 h with h | h
      · cases s <;> exact absurd h (by decide)
      · omega
    · omega
  -- one relation for the two
  have key : ∀ a b : Nat, (a : Int) = b + (i - j) → sg s * m * 2 ^ a = q * (sg t * n) * 2 ^ b := by
    intro a b hab
    apply cancel2 ((i.toNat + (-j).toNat))
    calc sg s * m * 2 ^ a * 2 ^ (i.toNat + (-j).toNat) = (sg s * m * 2 ^ i.toNat) * (2 ^ a * 2 ^ (-j).toNat) := by rw [Int.pow_add]; ac_rfl
      _ = q * (d * 2 ^ (-j).toNat) * (2 ^ (-i).toNat * 2 ^ a) := by rw [e1]; ac_rfl
      _ = q * (sg t * n * 2 ^ j.toNat) * (2 ^ (-i).toNat * 2 ^ a) := by rw [e2]
      _ = q * (sg t * n) * (2 ^ ((-i).toNat + a + j.toNat)) := by rw [Int.pow_add, Int.pow_add]; ac_rfl
      _ = q * (sg t * n) * (2 ^ (b + (i.toNat + (-j).toNat))) := by rw [show (-i).toNat + a + j.toNat = b + (i.toNat + (-j).toNat) by omega]
      _ = q * (sg t * n) * 2 ^ b * 2 ^ (i.toNat + (-j).toNat) := by rw [Int.pow_add]; ac_rfl
  have keyN : ∀ a b : Nat, (a : Int) = b + (i - j) → m * 2 ^ a = q.natAbs * n * 2 ^ b := by
    intro a b hab
    have e := congrArg Int.natAbs (key a b hab)
    rw [Int.natAbs_mul, Int.natAbs_mul, Int.natAbs_mul, Int.natAbs_mul, Int.natAbs_mul, show (sg s).natAbs = 1 by cases s <;> rfl, show (sg t).natAbs = 1 by cases t <;> rfl, Nat.one_mul, Nat.one_mul, Int.natAbs_natCast, Int.natAbs_natCast, Int.natAbs_pow, Int.natAbs_pow] at e
    exact e
  have hqa : q.natAbs ≠ 0 := by omega
  have hl : (m.log2 : Int) + (i - j).toNat ≤ q.natAbs.log2 + n.log2 + 1 + (-(i - j)).toNat := by
    have e := congrArg Nat.log2 (keyN (i - j).toNat (-(i - j)).toNat (by omega))
    rw [log2_mul2 hm, log2_mul2 (Nat.mul_ne_zero hqa hn)] at e
    have h1 : q.natAbs * n < 2 ^ (q.natAbs.log2 + 1 + (n.log2 + 1)) := by
      rw [Nat.pow_add]
      exact Nat.mul_lt_mul'' Nat.lt_log2_self Nat.lt_log2_self
    have h2 : (q.natAbs * n).log2 < q.natAbs.log2 + 1 + (n.log2 + 1) := (Nat.log2_lt (Nat.mul_ne_zero hqa hn)).2 h1
    omega
  have hlq : q.natAbs.log2 < 53 := (Nat.log2_lt hqa).2 hq
  have hdig : ∃ c : Nat, ((54 + n.log2 - m.log2 : Nat) : Int) = c + (i - j) := ⟨(((54 + n.log2 - m.log2 : Nat) : Int) - (i - j)).toNat, by omega⟩
  obtain ⟨c, hc⟩ := hdig
  have hdiv : m <<< (54 + n.log2 - m.log2) = (q.natAbs * 2 ^ c) * n := by
    rw [Nat.shiftLeft_eq, keyN _ c hc]; ac_rfl
  rw [hdiv, Nat.mul_div_cancel _ (Nat.pos_of_ne_zero hn), Nat.mul_mod_left]
  refine rep_of 0 (c + 1) (by omega) ?_
  have hsg : sg (s ^^ t) * q.natAbs = q := by
    have e := key _ c hc
    have e3 : (m : Int) * 2 ^ (54 + n.log2 - m.log2) = q.natAbs * n * 2 ^ c := by
      have := congrArg (fun z : Nat => (z : Int)) (keyN _ c hc)
      simpa [Int.natCast_mul, Int.natCast_pow] using this
    rw [Int.mul_assoc, e3] at e
    have hn' : (n : Int) * 2 ^ c ≠ 0 := Int.mul_ne_zero (by omega) (Int.ne_of_gt (p2 c))
    have e4 : sg s * q.natAbs = q * sg t := by
      apply Int.eq_of_mul_eq_mul_right hn'
      calc sg s * q.natAbs * (n * 2 ^ c) = sg s * (q.natAbs * n * 2 ^ c) := by ac_rfl
        _ = q * (sg t * n) * 2 ^ c := e
        _ = q * sg t * (n * 2 ^ c) := by ac_rfl
    rw [sg_xor]
    calc sg s * sg t * q.natAbs = (sg s * q.natAbs) * sg t := by ac_rfl
      _ = q * (sg t * sg t) := by rw [e4]; ac_rfl
      _ = q := by rw [sg_sq, Int.mul_one]
  have e5 : ((2 * (q.natAbs * 2 ^ c) + (0 != 0).toNat : Nat) : Int) = q.natAbs * 2 ^ (c + 1) := by
    rw [show ((0 : Nat) != 0).toNat = 0 from rfl, Nat.add_zero, Int.natCast_mul, Int.natCast_mul, Int.natCast_pow, Int.pow_succ]
    show (2 : Int) * ((q.natAbs : Int) * 2 ^ c) = q.natAbs * (2 ^ c * 2)
    ac_rfl
  rw [e5, Int.pow_zero, Int.mul_one, ← Int.mul_assoc, hsg]
theorem z_quo {x y : Fl} {q d : Int} (hx : Z x (q * d)) (hy : Z y d) (hd : d ≠ 0) (h : q.natAbs < 2 ^ 53) : Z (fop .quo .f64 x y) q := by
  obtain ⟨a, rfl, ha⟩ := hx
  obtain ⟨b, rfl, hb⟩ := hy
  obtain ⟨S, e, hS⟩ := rep_quotient ha hb hd h
  exact z_op (g := Ieee.Format.div) (fun _ _ => rfl) (by unfold Ieee.Format.div; rw [show Ieee.double.fractionBits + 2 = 54 from rfl, e]; rfl) hS h
theorem read_neg (b : Nat) : Ieee.double.read (b ^^^ 2 ^ 63) = (Ieee.double.read b).opposite := by
  have hw : Ieee.double.signWeight = 2 ^ 63 := rfl
  have h1 : (b ^^^ 2 ^ 63) % 2 ^ 63 = b % 2 ^ 63 := by
    rw [Nat.xor_mod_two_pow, Nat.mod_self, Nat.xor_zero]
  have h2 : ((b ^^^ 2 ^ 63) / 2 ^ 63 % 2 == 1) = !(b / 2 ^ 63 % 2 == 1) := by
    have h3 : (b ^^^ 2 ^ 63) / 2 ^ 63 = (b / 2 ^ 63) ^^^ 1 := by
      rw [Nat.xor_div_two_pow]
    have h4 : ((b / 2 ^ 63) ^^^ 1) % 2 ^ 1 = (b / 2 ^ 63 % 2 ^ 1) ^^^ (1 % 2 ^ 1) := Nat.xor_mod_two_pow
    rw [h3, show (((b / 2 ^ 63) ^^^ 1) % 2) = (b / 2 ^ 63 % 2) ^^^ 1 from h4]
    have : b / 2 ^ 63 % 2 = 0 ∨ b / 2 ^ 63 % 2 = 1 := by omega
    rcases this with h | h <;> rw [h] <;> rfl
  unfold Ieee.Format.read
  simp only [hw, h1, h2]
  split
  · rfl
  · split
    · rfl
    · split <;> rfl
theorem z_neg {x : Fl} {n : Int} (hx : Z x n) : Z (fneg .f64 x) (-n) := by
  obtain ⟨b, rfl, hb⟩ := hx
  have h : Rep (Ieee.double.read (b ^^^ 2 ^ 63)) (-n) := by rw [read_neg]; exact rep_opp hb
  exact ⟨b ^^^ 2 ^ 63, cn_not (k := .f64) (rep_nan h), h⟩

def fin (x : Fl) : Bool := fcmp .eql .f64 (fop .sub .f64 x x) (cn .f64 0)
theorem rdf_nat (l : List Fl) (n : Nat) : rdf .f64 l (n : Int) = l.getD n (cn .f64 0) := by
  unfold rdf
  rw [Int.toNat_natCast]
theorem drop_all (l : List Fl) (n : Nat) (h : n < l.length) : (l.drop n).all fin = (fin (l.getD n (cn .f64 0)) && (l.drop (n + 1)).all fin) := by
  rw [List.drop_eq_getElem_cons h, List.all_cons, List.getD_eq_getElem?_getD, List.getElem?_eq_getElem h]
  rfl
theorem index_loop (l : List Fl) (hl : l.length ≤ 9223372036854775807) : ∀ (d n : Nat), n + d = l.length → ∃ r : Int, Ev (fun k => slices_IndexFunc_float64_float64.l0 k l (l.length : Int) (n : Int)) r ∧ decide (r ≥ 0) = !(l.drop n).all fin := by
  intro d
  induction d with
  | zero =>
    intro n hn
    refine ⟨-1, ev_succ ?_, ?_⟩
    · simp only [slices_IndexFunc_float64_float64.l0]
      exact ev_neg (by omega) (Ev.now _)
    · rw [List.drop_of_length_le (by omega)]
      rfl
  | succ d ih =>
    intro n hn
    obtain ⟨r, hr, hb⟩ := ih (n + 1) (by omega)
    cases h : fin (l.getD n (cn .f64 0)) with
    | false =>
      have h' : fcmp .neq .f64 (fop .sub .f64 (l.getD n (cn .f64 0)) (l.getD n (cn .f64 0))) (cn .f64 0) = true := by
        show (!fin (l.getD n (cn .f64 0))) = true
        rw [h]; rfl
      refine ⟨(n : Int), ev_succ ?_, ?_⟩
      · simp only [slices_IndexFunc_float64_float64.l0, impl_finite_1.f, Option.bind_some, rdf_nat]
        exact ev_pos (by omega) (ev_pos (by omega) (ev_pos (by omega) (ev_pos h' (Ev.now _))))
      · rw [drop_all l n (by omega), h]
        simp
    | true =>
      have h' : fcmp .neq .f64 (fop .sub .f64 (l.getD n (cn .f64 0)) (l.getD n (cn .f64 0))) (cn .f64 0) = false := by
        show (!fin (l.getD n (cn .f64 0))) = false
        rw [h]; rfl
      refine ⟨r, ev_succ ?_, ?_⟩
      · simp only [slices_IndexFunc_float64_float64.l0, impl_finite_1.f, Option.bind_some, rdf_nat]
        rw [w64_succ (m := l.length) (by omega) hl]
        exact ev_pos (by omega) (ev_pos (by omega) (ev_pos (by omega) (ev_neg (by rw [h']; decide) hr)))
      · rw [drop_all l n (by omega), h, hb]
        rfl
theorem finite_ev (l : List Fl) (hl : l.length ≤ 9223372036854775807) : Ev (fun k => impl_finite.f k l) (l.all fin) := by
  obtain ⟨r, hr, hb⟩ := index_loop l hl l.length 0 (by omega)
  unfold impl_finite.f slices_ContainsFunc_float64_float64.f slices_IndexFunc_float64_float64.f
  have e : l.all fin = !decide (r ≥ 0) := by rw [hb, Bool.not_not, List.drop_zero]
  rw [e]
  exact Ev.bind (Ev.bind hr (Ev.now _)) (Ev.now _)

theorem rdf_n (l : List Fl) (n : Nat) : rdf .f64 l (n : Int) = l.getD n (cn .f64 0) := by
  unfold rdf
  rw [Int.toNat_natCast]

theorem at_ev {l : List Int} (h : ∀ x ∈ l, 0 ≤ x ∧ x ≤ 255) (hl : l.length ≤ 1048576) (i : Int) (h0 : 0 ≤ i) (h1 : i ≤ 1000000) : ∃ v, laws_at.f l i = some v ∧ 0 ≤ v ∧ v ≤ 255 := by
  unfold laws_at.f
  by_cases hi : i < (l.length : Int)
  · rw [if_pos hi, if_pos h0]
    have := u8_bounds h i.toNat
    refine ⟨_, rfl, ?_⟩
    unfold rd
    rw [w64 (by omega) (by omega)]
    exact this
  · rw [if_neg hi]
    refine ⟨_, rfl, ?_⟩
    rw [w64 (x := i * 7) (by omega) (by omega), w64 (by omega) (by omega), Int.tmod_eq_emod_of_nonneg (by omega)]
    omega

theorem big_ev {l : List Int} (h : l.length ≤ 1048576) : laws_big.f l = some false := by
  unfold laws_big.f
  rw [decide_eq_false (by omega)]
theorem big_big {l : List Int} (h : ¬ l.length ≤ 1048576) : laws_big.f l = some true := by
  unfold laws_big.f
  rw [decide_eq_true (by omega)]

/-! one step, and a flight -/
def stp (f0 f1 f2 f3 f4 dt e : Fl) (m : S60) : S60 := ⟨fop .add .f64 m.f0 (fop .mul .f64 (fop .sub .f64 (fop .sub .f64 f0 (fop .mul .f64 f1 (fop .mul .f64 m.f0 m.f0))) (fop .mul .f64 f4 m.f2)) dt), fop .add .f64 m.f1 (fop .mul .f64 (fop .mul .f64 m.f0 m.f2) dt), fop .add .f64 m.f2 (fop .mul .f64 m.f3 dt), fop .add .f64 m.f3 (fop .mul .f64 (fop .sub .f64 e (fop .mul .f64 f3 m.f3)) dt)⟩
def fly (F : Fl → S60 → S60) : S60 → List Fl → List S60
  | _, [] => []
  | m, e :: l => F e m :: fly F (F e m) l
theorem fly_len (F : Fl → S60 → S60) : ∀ (l : List Fl) (m : S60), (fly F m l).length = l.length
  | [], _ => rfl
  | e :: l, m => by simp only [fly, List.length_cons, fly_len F l]
theorem fly_drop (F : Fl → S60 → S60) : ∀ (l : List Fl) (m : S60) (k : Nat), k < l.length → (fly F m l).drop (k + 1) = fly F ((fly F m l).getD k z60) (l.drop (k + 1))
  | [], _, _, h => absurd h (by simp)
  | e :: l, m, 0, _ => by simp [fly]
  | e :: l, m, k + 1, h => by
    have := fly_drop F l (F e m) k (by simpa using h)
    simpa [fly] using this
theorem drop_fl {l : List Fl} {n : Nat} (h : n < l.length) : l.drop n = l.getD n (cn .f64 0) :: l.drop (n + 1) := by
  rw [List.drop_eq_getElem_cons h, List.getD_eq_getElem?_getD, List.getElem?_eq_getElem h]
  rfl
theorem fly_loops (l : List Fl) (hl : l.length ≤ 400) (dt : Fl) (f0 f1 f2 f3 f4 : Fl) : ∀ (d n : Nat) (o : List S60) (m : S60), n + d = l.length → o.length = n → Ev (fun k => spec_Fly.l0 k l dt o (n : Int) m.f0 m.f1 m.f2 m.f3 f0 f1 f2 f3 f4) (o ++ fly (stp f0 f1 f2 f3 f4 dt) m (l.drop n), true) ∧ Ev (fun k => impl_Fly.l0 k dt o l (l.length : Int) (n : Int) m.f0 m.f1 m.f2 m.f3 f0 f1 f2 f3 f4) (o ++ fly (stp f0 f1 f2 f3 f4 dt) m (l.drop n), true) := by
  intro d
  induction d with
  | zero =>
    intro n o m hn ho
    rw [List.drop_of_length_le (by omega)]
    simp only [fly, List.append_nil]
    refine ⟨ev_succ ?_, ev_succ ?_⟩
    · simp only [spec_Fly.l0]
      exact ev_neg (by omega) (Ev.now _)
    · simp only [impl_Fly.l0]
      exact ev_neg (by omega) (Ev.now _)
  | succ d ih =>
    intro n o m hn ho
    have hw := w64_succ (n := n) (m := l.length) (by omega) (by omega)
    obtain ⟨h1, h2⟩ := ih (n + 1) (o ++ [stp f0 f1 f2 f3 f4 dt (l.getD n (cn .f64 0)) m]) (stp f0 f1 f2 f3 f4 dt (l.getD n (cn .f64 0)) m) (by omega) (by simp; omega)
    rw [drop_fl (by omega)]
    simp only [fly]
    rw [show ∀ (a : List S60) x b, a ++ x :: b = (a ++ [x]) ++ b from fun a x b => by simp]
    refine ⟨ev_succ ?_, ev_succ ?_⟩
    · simp only [spec_Fly.l0, spec_StepOnce.f, Option.bind_some, hw, rdf_n]
      exact ev_pos (by omega) (ev_pos (by omega) (ev_pos (by omega) h1))
    · simp only [impl_Fly.l0, impl_StepOnce.f, Option.bind_some, hw, rdf_n]
      exact ev_pos (by omega) (ev_pos (by omega) (ev_pos (by omega) (ev_pos (by omega) h2)))
/-- what both answer -/
def flown (l : List Fl) (dt f0 f1 f2 f3 f4 : Fl) (m : S60) : List S60 × Bool := if l.length ≤ 400 ∧ fcmp .gtr .f64 dt (cn .f64 0) = true then (fly (stp f0 f1 f2 f3 f4 dt) m l, true) else ([], false)
theorem fly_both (l : List Fl) (dt : Fl) (m : S60) (f0 f1 f2 f3 f4 : Fl) : Ev (fun k => spec_Fly.f k m.f0 m.f1 m.f2 m.f3 f0 f1 f2 f3 f4 l dt) (flown l dt f0 f1 f2 f3 f4 m) ∧ Ev (fun k => impl_Fly.f k m.f0 m.f1 m.f2 m.f3 f0 f1 f2 f3 f4 l dt) (flown l dt f0 f1 f2 f3 f4 m) := by
  unfold spec_Fly.f impl_Fly.f
  simp only [Option.bind_some]
  have no : Ev (fun k => spec_Fly.j0 k l dt [] true m.f0 m.f1 m.f2 m.f3 f0 f1 f2 f3 f4) ([], false) ∧ Ev (fun k => impl_Fly.j0 k l dt true m.f0 m.f1 m.f2 m.f3 f0 f1 f2 f3 f4) ([], false) := by
    refine ⟨ev_succ ?_, ev_succ ?_⟩
    · simp only [spec_Fly.j0]
      exact ev_pos (by trivial) (Ev.now _)
    · simp only [impl_Fly.j0]
      exact ev_pos (by trivial) (Ev.now _)
  by_cases h : (l.length : Int) > 400
  · rw [show flown l dt f0 f1 f2 f3 f4 m = ([], false) from if_neg (fun h' => by omega)]
    exact ⟨ev_pos h no.1, ev_pos h no.2⟩
  · cases hc : fcmp .gtr .f64 dt (cn .f64 0) with
    | false =>
      rw [show flown l dt f0 f1 f2 f3 f4 m = ([], false) from if_neg (fun h' => by rw [hc] at h'; exact absurd h'.2 (by decide))]
      exact ⟨ev_neg h no.1, ev_neg h no.2⟩
    | true =>
      rw [show flown l dt f0 f1 f2 f3 f4 m = (fly (stp f0 f1 f2 f3 f4 dt) m l, true) from if_pos ⟨by omega, hc⟩]
      obtain ⟨h1, h2⟩ := fly_loops l (by omega) dt f0 f1 f2 f3 f4 l.length 0 [] m (by omega) rfl
      refine ⟨ev_neg h (ev_succ ?_), ev_neg h (ev_succ ?_)⟩
      · simp only [spec_Fly.j0]
        exact ev_neg (by decide) h1
      · simp only [impl_Fly.j0]
        exact ev_neg (by decide) h2
/-! what is drawn -/
theorem draw5_ev {l : List Int} (hl : l.length ≤ 1048576) {pos : Int} (hp : At_ l pos) (s : Int) : ∃ x pos' s', Ev (fun k => spec_l5Draw.f k l pos s) (x, pos', s') ∧ At_ l pos' := by
  obtain ⟨b, p, q, e, h⟩ := once_eq hl hp s (a := 12) (by decide)
  unfold spec_l5Draw.f
  simp only [e, Option.bind_some]
  cases b with
  | true =>
    obtain ⟨x, p1, q1, hx, h1⟩ := float_ev hl h q
    exact ⟨_, _, _, ev_pos (by trivial) (Ev.bind hx (Ev.now _)), h1⟩
  | false =>
    obtain ⟨v, p1, q1, e1, _, _, h1⟩ := below_eq hl h q (a := 161) (by decide)
    simp only [e1, Option.bind_some]
    exact ⟨_, _, _, ev_neg (by decide) (Ev.now _), h1⟩
theorem motion_ev {l : List Int} (hl : l.length ≤ 1048576) {pos : Int} (hp : At_ l pos) (s : Int) : ∃ a b c d pos' s', Ev (fun k => spec_l5DrawMotion.f k l pos s) (a, b, c, d, pos', s') ∧ At_ l pos' := by
  obtain ⟨a, p0, q0, h0, hp⟩ := draw5_ev hl hp s
  obtain ⟨b, p1, q1, h1, hp⟩ := draw5_ev hl hp q0
  obtain ⟨c, p2, q2, h2, hp⟩ := draw5_ev hl hp q1
  obtain ⟨d, p3, q3, h3, hp⟩ := draw5_ev hl hp q2
  unfold spec_l5DrawMotion.f
  exact ⟨_, _, _, _, _, _, Ev.bind h0 (Ev.bind h1 (Ev.bind h2 (Ev.bind h3 (Ev.now _)))), hp⟩
theorem forces_ev {l : List Int} (hl : l.length ≤ 1048576) {pos : Int} (hp : At_ l pos) (s : Int) : ∃ a b c d e pos' s', Ev (fun k => spec_l5DrawForces.f k l pos s) (a, b, c, d, e, pos', s') ∧ At_ l pos' := by
  obtain ⟨a, p0, q0, h0, hp⟩ := draw5_ev hl hp s
  obtain ⟨b, p1, q1, h1, hp⟩ := draw5_ev hl hp q0
  obtain ⟨c, p2, q2, h2, hp⟩ := draw5_ev hl hp q1
  obtain ⟨d, p3, q3, h3, hp⟩ := draw5_ev hl hp q2
  obtain ⟨e, p4, q4, h4, hp⟩ := draw5_ev hl hp q3
  unfold spec_l5DrawForces.f
  exact ⟨_, _, _, _, _, _, _, Ev.bind h0 (Ev.bind h1 (Ev.bind h2 (Ev.bind h3 (Ev.bind h4 (Ev.now _))))), hp⟩
theorem list_loop {l : List Int} (hl : l.length ≤ 1048576) (c : Int) (hc : c ≤ 1000) : ∀ (d n : Nat) (o : List Fl) (pos s : Int), n + d = c.toNat → o.length = n → At_ l pos → ∃ r pos' s', Ev (fun k => spec_l5DrawList.l0 k c o (n : Int) l pos s) (r, pos', s') ∧ At_ l pos' := by
  intro d
  induction d with
  | zero =>
    intro n o pos s hn ho hp
    refine ⟨o, pos, s, ev_succ ?_, hp⟩
    simp only [spec_l5DrawList.l0]
    exact ev_neg (by omega) (Ev.now _)
  | succ d ih =>
    intro n o pos s hn ho hp
    have hw : wrap64 ((n : Int) + 1) = ((n + 1 : Nat) : Int) := w64_succ (m := c.toNat) (by omega) (by omega)
    obtain ⟨x, p0, q0, h0, hp⟩ := draw5_ev hl hp s
    obtain ⟨b, p1, q1, e1, hp⟩ := once_eq hl hp q0 (a := 6) (by decide)
    cases b with
    | true =>
      obtain ⟨r, p2, q2, h2, hp⟩ := ih (n + 1) (o ++ [fop .quo .f64 (cn .f64 0) (cn .f64 0)]) p1 q1 (by omega) (by simp; omega) hp
      refine ⟨r, p2, q2, ev_succ ?_, hp⟩
      simp only [spec_l5DrawList.l0, spec_l5NaN.f, Option.bind_some, hw]
      refine ev_pos (by omega) (Ev.bind h0 ?_)
      simp only [e1, Option.bind_some]
      exact ev_pos (by trivial) (ev_pos (by omega) h2)
    | false =>
      obtain ⟨r, p2, q2, h2, hp⟩ := ih (n + 1) (o ++ [x]) p1 q1 (by omega) (by simp; omega) hp
      refine ⟨r, p2, q2, ev_succ ?_, hp⟩
      simp only [spec_l5DrawList.l0, spec_l5NaN.f, Option.bind_some, hw]
      refine ev_pos (by omega) (Ev.bind h0 ?_)
      simp only [e1, Option.bind_some]
      exact ev_neg (by decide) (ev_pos (by omega) h2)
theorem list_j {l : List Int} (hl : l.length ≤ 1048576) (c : Int) (hc : c ≤ 1000) {pos : Int} (hp : At_ l pos) (s : Int) : ∃ r pos' s', Ev (fun k => spec_l5DrawList.j0 k c l pos s) (r, pos', s') ∧ At_ l pos' := by
  obtain ⟨r, p, q, h, hp⟩ := list_loop hl c hc c.toNat 0 [] pos s (by omega) rfl hp
  refine ⟨r, p, q, ev_succ ?_, hp⟩
  simp only [spec_l5DrawList.j0]
  exact h
theorem list_ev {l : List Int} (hl : l.length ≤ 1048576) {pos : Int} (hp : At_ l pos) (s : Int) : ∃ r pos' s', Ev (fun k => spec_l5DrawList.f k l pos s 400) (r, pos', s') ∧ At_ l pos' := by
  obtain ⟨v, p0, q0, e0, v0, v1, hp⟩ := below_eq hl hp s (a := 14) (by decide)
  obtain ⟨b, p1, q1, e1, hp⟩ := once_eq hl hp q0 (a := 40) (by decide)
  unfold spec_l5DrawList.f
  simp only [e0, e1, Option.bind_some]
  cases b with
  | true =>
    obtain ⟨u, p2, q2, e2, u0, u1, hp⟩ := below_eq hl hp q1 (a := 2) (by decide)
    have hw : wrap64 (400 + u) = 400 + u := w64 (by omega) (by omega)
    obtain ⟨r, p3, q3, h3, hp⟩ := list_j hl (400 + u) (by omega) hp q2
    simp only [e2, Option.bind_some, hw]
    exact ⟨r, p3, q3, ev_pos (by trivial) h3, hp⟩
  | false =>
    obtain ⟨r, p3, q3, h3, hp⟩ := list_j hl v (by omega) hp q1
    exact ⟨r, p3, q3, ev_neg (by decide) h3, hp⟩
theorem drawfly_ev {l : List Int} (hl : l.length ≤ 1048576) : ∃ m0 m1 m2 m3 f0 f1 f2 f3 f4 es dt, Ev (fun k => spec_DrawFly.f k l) (m0, m1, m2, m3, f0, f1, f2, f3, f4, es, dt) := by
  obtain ⟨s, hs⟩ := new_ev l hl
  have hp : At_ l 0 := ⟨by omega, by omega⟩
  obtain ⟨a, b, c, d, p0, q0, h0, hp⟩ := motion_ev hl hp s
  obtain ⟨f0, f1, f2, f3, f4, p1, q1, h1, hp⟩ := forces_ev hl hp q0
  obtain ⟨es, p2, q2, h2, hp⟩ := list_ev hl hp q1
  obtain ⟨x, p3, q3, h3, hp⟩ := draw5_ev hl hp q2
  unfold spec_DrawFly.f
  exact ⟨_, _, _, _, _, _, _, _, _, _, _, Ev.bind hs (Ev.bind h0 (Ev.bind h1 (Ev.bind h2 (Ev.bind h3 (Ev.now _)))))⟩
/-! a motion at rest -/
theorem rep_zero {D : Ieee.Datum} {e : Int} (h : RepE D 0 e) : Rep D 0 := by
  obtain ⟨s, m, p, rfl⟩ := rep_num h
  have e1 := rep_all h (p - e).toNat (e - p).toNat (by omega)
  rw [Int.zero_mul] at e1
  have h0 : sg s * (m : Int) = 0 := by
    rcases Int.mul_eq_zero.mp e1 with h | h
    · exact h
    · have := p2 (p - e).toNat
      omega
  exact rep_of p.toNat (-p).toNat (by omega) (by rw [h0, Int.zero_mul, Int.zero_mul])
theorem half_rep : RepE (Ieee.double.read 4602678819172646912) 1 (-1) := ⟨false, 4503599627370496, -53, 0, 52, rfl, by decide, by decide⟩
theorem z_half {x : Fl} (hx : Z x 0) : Z (fop .mul .f64 x (cn .f64 4602678819172646912)) 0 := by
  obtain ⟨a, rfl, ha⟩ := hx
  have hb : cn .f64 4602678819172646912 = some 4602678819172646912 := cn_not (rep_nan half_rep)
  rw [hb]
  obtain ⟨S, e, hS⟩ := rep_product ha half_rep
  rw [Int.zero_mul] at hS
  exact z_op (g := Ieee.Format.mul) (fun _ _ => rfl) (by unfold Ieee.Format.mul; rw [e]; rfl) (rep_zero hS) (by decide)
theorem z_gtr {x y : Fl} {m n : Int} (hx : Z x m) (hy : Z y n) : fcmp .gtr .f64 x y = decide (n < m) := by
  unfold fcmp; simp only [z_ord hx hy, cmpI]
  by_cases h1 : m < n
  · rw [if_pos h1, decide_eq_false (by omega)]; rfl
  · by_cases h2 : m = n
    · rw [if_neg h1, if_pos h2, decide_eq_false (by omega)]; rfl
    · rw [if_neg h1, if_neg h2, decide_eq_true (by omega)]; rfl
theorem z_le {x y : Fl} {m : Int} (hx : Z x m) (hy : Z y m) : fcmp .leq .f64 x y = true ∧ fcmp .geq .f64 x y = true := by
  unfold fcmp
  simp only [z_ord hx hy, cmpI, Int.lt_irrefl]
  exact ⟨rfl, rfl⟩
theorem near_round (l : List Fl) (n : Nat) (h : n < l.length) (hl : l.length ≤ 100) (hz : Z (l.getD n (cn .f64 0)) 0) (hr : Ev (fun k => impl_Near5.l0 k (cn .f64 0) l (l.length : Int) ((n + 1 : Nat) : Int)) true) :
    Ev (fun k => impl_Near5.l0 k (cn .f64 0) l (l.length : Int) (n : Int)) true := by
  refine ev_succ ?_
  have hn : Z (fneg .f64 (cn .f64 0)) 0 := by simpa using z_neg z_zero
  have e : rdf .f64 l (n : Int) = l.getD n (cn .f64 0) := rdf_n l n
  simp only [impl_Near5.l0, Option.bind_some, e]
  rw [w64_succ (m := l.length) h (by omega)]
  exact ev_pos (by omega) (ev_pos (by omega) (ev_pos (by omega) (ev_pos (z_le hz z_zero).1 (ev_pos (z_le hz hn).2 hr))))
theorem near_ev {a b c d a' b' c' d' : Fl} {v w : Int} (hv : 0 ≤ v ∧ v ≤ 255) (hw : 0 ≤ w ∧ w ≤ 255) (h0 : Z a v) (h1 : Z b w) (h2 : Z c 0) (h3 : Z d 0) (g0 : Z a' v) (g1 : Z b' w) (g2 : Z c' 0) (g3 : Z d' 0) : Ev (fun k => impl_Near5.f k a b c d a' b' c' d' (cn .f64 0)) true := by
  have h53 : (2 : Nat) ^ 53 = 9007199254740992 := by decide
  unfold impl_Near5.f
  simp only [Option.bind_some]
  have k0 := z_sub h0 g0 (by omega)
  have k1 := z_sub h1 g1 (by omega)
  have k2 := z_sub h2 g2 (by omega)
  have k3 := z_sub h3 g3 (by omega)
  rw [Int.sub_self] at k0 k1 k2 k3
  generalize fop .sub .f64 a a' = x1 at *
  generalize fop .sub .f64 b b' = x2 at *
  generalize fop .sub .f64 c c' = x3 at *
  generalize fop .sub .f64 d d' = x4 at *
  have e4 : Ev (fun k => impl_Near5.l0 k (cn .f64 0) [x1, x2, x3, x4] (([x1, x2, x3, x4] : List Fl).length : Int) ((4 : Nat) : Int)) true := by
    refine ev_succ ?_
    simp only [impl_Near5.l0]
    exact ev_neg (by simp) (Ev.now _)
  have e3 := near_round [x1, x2, x3, x4] 3 (by simp) (by simp) k3 e4
  have e2 := near_round [x1, x2, x3, x4] 2 (by simp) (by simp) k2 e3
  have e1 := near_round [x1, x2, x3, x4] 1 (by simp) (by simp) k1 e2
  exact near_round [x1, x2, x3, x4] 0 (by simp) (by simp) k0 e1
theorem load_ev {a b c d f0 f1 f3 : Fl} {v : Int} (hv : 0 ≤ v ∧ v ≤ 255) (h0 : Z a v) : ∃ r, Ev (fun k => impl_Load5.f k a b c d f0 f1 (cn .f64 4607182418800017408) f3 (cn .f64 4607182418800017408)) (r, true) ∧ Z r (v * v) := by
  have h53 : (2 : Nat) ^ 53 = 9007199254740992 := by decide
  have hvv : 0 ≤ v * v ∧ v * v ≤ 65025 := ⟨Int.mul_nonneg hv.1 hv.1, Int.mul_le_mul hv.2 hv.2 hv.1 (by decide)⟩
  have s1 := z_mul h0 h0 (by omega)
  have s2 := z_mul z_one s1 (by omega)
  rw [Int.one_mul] at s2
  have s3 := z_quo (q := v * v) (d := 1) (by rw [Int.mul_one]; exact s2) z_one (by decide) (by omega)
  refine ⟨_, ?_, s3⟩
  have hf : fin (fop .quo .f64 (fop .mul .f64 (cn .f64 4607182418800017408) (fop .mul .f64 a a)) (cn .f64 4607182418800017408)) = true := by
    have s4 := z_sub s3 s3 (by omega)
    rw [Int.sub_self] at s4
    unfold fin
    rw [z_eql s4 z_zero]
    rfl
  have hy := finite_ev [fop .quo .f64 (fop .mul .f64 (cn .f64 4607182418800017408) (fop .mul .f64 a a)) (cn .f64 4607182418800017408)] (by simp)
  simp only [List.all_cons, List.all_nil, hf, Bool.and_true] at hy
  unfold impl_Load5.f
  simp only [Option.bind_some]
  refine ev_pos (by rw [z_gtr z_one z_zero]; rfl) (Ev.bind hy (ev_pos (by trivial) (Ev.now _)))
theorem still_ev {l : List Int} (hu : ∀ x ∈ l, 0 ≤ x ∧ x ≤ 255) (hL : l.length ≤ 1048576) : Ev (fun k => laws_FnFlown.j5 k l) true := by
  have h53 : (2 : Nat) ^ 53 = 9007199254740992 := by decide
  obtain ⟨v, e0, v0, v1⟩ := at_ev hu hL 1 (by omega) (by omega)
  obtain ⟨w, e1, w0, w1⟩ := at_ev hu hL 2 (by omega) (by omega)
  have hx : Z (fint .f64 v) v := z_fint (by omega)
  have hy : Z (fint .f64 w) w := z_fint (by omega)
  refine ev_succ ?_
  simp only [laws_FnFlown.j5, e0, e1, Option.bind_some, impl_StepOnce.f]
  generalize fint .f64 v = X at *
  generalize fint .f64 w = Y at *
  have hvv : 0 ≤ v * v ∧ v * v ≤ 65025 := ⟨Int.mul_nonneg v0 v0, Int.mul_le_mul v1 v1 v0 (by decide)⟩
  obtain ⟨r, hr, zr⟩ := load_ev (b := Y) (c := cn .f64 0) (d := cn .f64 0) (f0 := cn .f64 0) (f1 := cn .f64 0) (f3 := cn .f64 0) ⟨v0, v1⟩ hx
  have xx := z_mul hx hx (by omega)
  have a1 := z_mul z_zero xx (by omega)
  rw [Int.zero_mul] at a1
  have a2 := z_sub z_zero a1 (by omega)
  have a3 := z_mul z_zero z_zero (by omega)
  rw [Int.zero_mul] at a3
  rw [Int.sub_self] at a2
  have a4 := z_sub a2 a3 (by omega)
  rw [Int.sub_self] at a4
  have a5 := z_add hx (z_half a4) (by omega)
  rw [Int.add_zero] at a5
  have b1 := z_mul hx z_zero (by omega)
  rw [Int.mul_zero] at b1
  have b2 := z_add hy (z_half b1) (by omega)
  rw [Int.add_zero] at b2
  have c1 := z_add z_zero (z_half z_zero) (by omega)
  rw [Int.add_zero] at c1
  have d1 := z_sub z_zero a3 (by omega)
  rw [Int.sub_self] at d1
  have d2 := z_add z_zero (z_half d1) (by omega)
  rw [Int.add_zero] at d2
  have hn := near_ev ⟨v0, v1⟩ ⟨w0, w1⟩ a5 b2 c1 d2 hx hy z_zero z_zero
  have t : Ev (fun k => laws_FnFlown.j6 k (fcmp .eql .f64 r (fop .mul .f64 X X))) true := by
    rw [z_eql zr xx]
    refine ev_succ ?_
    simp only [laws_FnFlown.j6]
    simpa using Ev.now true
  refine Ev.bind hr (ev_pos ?_ (Ev.bind hn (ev_pos (by trivial) (ev_pos (by trivial) t))))
  rw [z_eql a5 hx, z_eql b2 hy, z_eql c1 z_zero, z_eql d2 z_zero]
  simp
/-! the second half anew -/
theorem rest_loop {l : List Int} (hj : Ev (fun k => laws_FnFlown.j5 k l) true) (way rest : List S60) (m : Nat) (hm : rest.length + m = way.length) (hw : way.length ≤ 400) (he : way.drop m = rest) : ∀ (d n : Nat), n + d = rest.length → Ev (fun k => laws_FnFlown.l0 k l way (m : Int) rest (n : Int)) true := by
  intro d
  induction d with
  | zero =>
    intro n hn
    refine ev_succ ?_
    simp only [laws_FnFlown.l0]
    exact ev_neg (by omega) hj
  | succ d ih =>
    intro n hn
    have h1 : wrap64 ((m : Int) + (n : Int)) = ((m + n : Nat) : Int) := by rw [w64 (by omega) (by omega)]; omega
    have h2 := w64_succ (n := n) (m := rest.length) (by omega) (by omega)
    have h3 : rd_T60 rest (n : Int) = rd_T60 way ((m + n : Nat) : Int) := by
      unfold rd_T60
      rw [Int.toNat_natCast, Int.toNat_natCast, ← he]
      simp only [List.getD_eq_getElem?_getD, List.getElem?_drop]
    refine ev_succ ?_
    simp only [laws_FnFlown.l0, h1, h2, h3, same_self, Option.bind_some]
    refine ev_pos (by omega) (ev_pos (by omega) (ev_pos (by omega) (ev_pos (by omega) (ev_pos (by trivial) (ev_pos (by trivial) (ev_pos (by trivial) (ev_succ ?_)))))))
    simp only [laws_FnFlown.j4, h2]
    exact ev_neg (by simp) (ih (n + 1) (by omega))
theorem FnFlown : laws_FnFlown.PureR := by
  intro l ⟨_, hu⟩
  refine Ev.rounds ?_
  unfold laws_FnFlown.f
  by_cases hL : l.length ≤ 1048576
  rotate_left
  · rw [big_big hL]
    exact Ev.now _
  rw [big_ev hL]
  simp only [Option.bind_some]
  refine ev_neg (by decide) ?_
  have hj := still_ev hu hL
  obtain ⟨m0, m1, m2, m3, f0, f1, f2, f3, f4, es, dt, hd⟩ := drawfly_ev hL
  obtain ⟨h1, h2⟩ := fly_both es dt ⟨m0, m1, m2, m3⟩ f0 f1 f2 f3 f4
  refine Ev.bind hd (Ev.bind h2 (Ev.bind h1 (ev_neg (by simp) ?_)))
  by_cases hc : es.length ≤ 400 ∧ fcmp .gtr .f64 dt (cn .f64 0) = true
  rotate_left
  · rw [show flown es dt f0 f1 f2 f3 f4 ⟨m0, m1, m2, m3⟩ = ([], false) from if_neg hc]
    refine ev_neg (by decide) (ev_succ ?_)
    simp only [laws_FnFlown.j0]
    refine ev_neg (by decide) (ev_neg (by decide) (ev_succ ?_))
    simp only [laws_FnFlown.j1]
    exact ev_neg (by decide) hj
  rw [show flown es dt f0 f1 f2 f3 f4 ⟨m0, m1, m2, m3⟩ = (fly (stp f0 f1 f2 f3 f4 dt) ⟨m0, m1, m2, m3⟩ es, true) from if_pos hc]
  have hlen := fly_len (stp f0 f1 f2 f3 f4 dt) es ⟨m0, m1, m2, m3⟩
  have hdrop := fly_drop (stp f0 f1 f2 f3 f4 dt) es ⟨m0, m1, m2, m3⟩
  have hagain := fun m => (fly_both (es.drop m) dt ((fly (stp f0 f1 f2 f3 f4 dt) ⟨m0, m1, m2, m3⟩ es).getD (m - 1) z60) f0 f1 f2 f3 f4).2
  generalize fly (stp f0 f1 f2 f3 f4 dt) ⟨m0, m1, m2, m3⟩ es = way at *
  refine ev_pos (by trivial) (ev_succ ?_)
  simp only [laws_FnFlown.j0]
  have hk : wrap64 ((way.length : Int) / 2) = ((way.length / 2 : Nat) : Int) := by rw [w64 (by omega) (by omega)]; omega
  rw [hk]
  refine ev_neg (by simp [hlen]) (ev_pos (by trivial) (ev_succ ?_))
  simp only [laws_FnFlown.j1]
  generalize hm : way.length / 2 = m
  by_cases h0 : (m : Int) > 0
  rotate_left
  · exact ev_neg (by simpa using h0) hj
  have hm1 : wrap64 ((m : Int) - 1) = ((m - 1 : Nat) : Int) := by rw [w64 (by omega) (by omega)]; omega
  have hrd : rd_T60 way ((m - 1 : Nat) : Int) = way.getD (m - 1) z60 := by
    unfold rd_T60
    rw [Int.toNat_natCast]
  have hsub : wrap64 ((way.length : Int) - (m : Int)) = ((way.length - m : Nat) : Int) := by rw [w64 (by omega) (by omega)]; omega
  rw [hm1, hrd, hsub, Int.toNat_natCast]
  refine ev_pos (by simpa using h0) (ev_pos (by omega) (ev_pos (by omega) (ev_pos (by omega) (ev_pos (by omega) (Ev.bind (hagain m) ?_)))))
  have hd2 : (es.drop m).length = es.length - m := List.length_drop
  rw [show flown (es.drop m) dt f0 f1 f2 f3 f4 (way.getD (m - 1) z60) = (fly (stp f0 f1 f2 f3 f4 dt) (way.getD (m - 1) z60) (es.drop m), true) from if_pos ⟨by omega, hc.2⟩]
  have hdr := hdrop (m - 1) (by omega)
  rw [show m - 1 + 1 = m by omega] at hdr
  have hl2 := fly_len (stp f0 f1 f2 f3 f4 dt) (es.drop m) (way.getD (m - 1) z60)
  generalize fly (stp f0 f1 f2 f3 f4 dt) (way.getD (m - 1) z60) (es.drop m) = rest at *
  refine ev_pos (by trivial) (ev_succ ?_)
  simp only [laws_FnFlown.j2]
  refine ev_neg ?_ ?_
  · have : rest.length = way.length - m := by omega
    simp [this]
  · exact rest_loop hj way rest m (by omega) (by omega) hdr rest.length 0 (by omega)

end Go.Proofs.Ytkginilghcepbaa.Pure
