/- Proved here: a drawn float32 that is widened and narrowed again is what it was, products and sums of complex numbers keep their order's bits, and the polynomial of small whole roots is nought at each; no condition. -/
import Derived.Test.YtfopdbdamkfglaaPureDefFnSizes
namespace Go.Proofs.Ytfopdbdamkfglaa.Pure
open Go.RowKit Go.Proofs.Ytfopdbdamkfglaa.QFnSizes Go.Proofs.YtfopdbdamkfglaaW.PrintWords Go.Proofs.YtfopdbdamkfglaaW.PrintLast Go.Proofs.YtfopdbdamkfglaaW.PrintMore
set_option linter.unusedVariables false
set_option linter.unusedSimpArgs false

theorem ev_pos {c : Prop} [Decidable c] {α : Type} {A B : Nat → Option α} {r : α} (h : c) (k : Ev A r) : Ev (fun n => if c then A n else B n) r := by
  simpa only [if_pos h] using k
theorem ev_neg {c : Prop} [Decidable c] {α : Type} {A B : Nat → Option α} {r : α} (h : ¬ c) (k : Ev B r) : Ev (fun n => if c then A n else B n) r := by
  simpa only [if_neg h] using k
theorem ev_succ {α : Type} {g : Nat → Option α} {r : α} (h : Ev (fun k => g (k + 1)) r) : Ev g r := Ev.step (fun _ => rfl) h
theorem ex_succ {α : Type} {g : Nat → Option α} (h : ∃ r, Ev (fun k => g (k + 1)) r) : ∃ r, Ev g r := by
  obtain ⟨r, h⟩ := h
  exact ⟨r, ev_succ h⟩
theorem ev_one {α : Type} {g : Nat → Option α} {r q : α} (h : Ev g r) (h' : Ev g q) : r = q := by
  obtain ⟨K, hK⟩ := h
  obtain ⟨L, hL⟩ := h'
  have a := hK (max K L) (Nat.le_max_left _ _)
  have b := hL (max K L) (Nat.le_max_right _ _)
  exact Option.some.inj (a.symm.trans b)
theorem ev_bool {α : Type} {A B : Nat → Option α} {r : α} (b : Bool) (h1 : b = true → Ev A r) (h2 : b = false → Ev B r) : Ev (fun n => if b = true then A n else B n) r := by
  cases b with
  | true => exact ev_pos (by trivial) (h1 rfl)
  | false => exact ev_neg (by decide) (h2 rfl)
theorem bool_eq_of_iff {a b : Bool} {p : Prop} (h : a = true ↔ p) (h' : b = true ↔ p) : a = b := by
  rw [Bool.eq_iff_iff]
  exact h.trans h'.symm
theorem w64 {x : Int} (h0 : -9223372036854775808 ≤ x) (h1 : x ≤ 9223372036854775807) : wrap64 x = x := by
  unfold wrap64
  omega
theorem w64_succ {n m : Nat} (h : n < m) (hm : m ≤ 9223372036854775807) : wrap64 ((n : Int) + 1) = ((n + 1 : Nat) : Int) := by
  unfold wrap64
  omega
theorem rd_nat (l : List Int) (n : Nat) : rd l (n : Int) = l.getD n 0 := by
  unfold rd
  rw [Int.toNat_natCast]
theorem take_set_succ {α : Type} (d : α) {x0 x3 : List α} {n : Nat} (h : n < x0.length) (hl : x3.length = x0.length) (ht : x3.take n = x0.take n) : (x3.set n (x0.getD n d)).take (n + 1) = x0.take (n + 1) := by
  apply List.ext_getElem?
  intro i
  simp only [List.getElem?_take, List.getElem?_set]
  by_cases hi : i < n + 1
  · rw [if_pos hi, if_pos hi]
    by_cases he : n = i
    · subst he
      rw [if_pos rfl, if_pos (by omega), List.getD_eq_getElem?_getD, List.getElem?_eq_getElem h]
      rfl
    · rw [if_neg he]
      have := congrArg (fun l => l[i]?) ht
      simpa only [List.getElem?_take, if_pos (show i < n by omega)] using this
  · rw [if_neg hi, if_neg hi]
theorem u8_bounds {l : List Int} (h : ∀ x ∈ l, 0 ≤ x ∧ x ≤ 255) (n : Nat) : 0 ≤ l.getD n 0 ∧ l.getD n 0 ≤ 255 := by
  rw [List.getD_eq_getElem?_getD]
  cases e : l[n]? with
  | none => simp
  | some x =>
    exact h x (List.mem_of_getElem? e)
theorem getD_map {α β : Type} (c : α → β) (l : List α) (n : Nat) (d : α) : (l.map c).getD n (c d) = c (l.getD n d) := by
  simp only [List.getD_eq_getElem?_getD, List.getElem?_map]
  cases l[n]? <;> rfl
/-- It ends, with true just where p holds. -/
def EvB (g : Nat → Option Bool) (p : Prop) : Prop := ∃ b, Ev g b ∧ (b = true ↔ p)
theorem EvB.iff {g : Nat → Option Bool} {p q : Prop} (h : EvB g p) (h' : p ↔ q) : EvB g q := by
  obtain ⟨b, hb, ib⟩ := h
  exact ⟨b, hb, ib.trans h'⟩
theorem EvB.dec {c : Prop} [Decidable c] : EvB (fun _ => some (decide c)) c := ⟨decide c, Ev.now _, decide_eq_true_iff⟩
theorem EvB.ite {c : Prop} [Decidable c] {A : Nat → Option Bool} {p : Prop} (h : EvB A p) : EvB (fun n => if c then A n else some false) (c ∧ p) := by
  obtain ⟨b, hb, ib⟩ := h
  by_cases hc : c
  · exact ⟨b, ev_pos hc hb, ⟨fun h => ⟨hc, ib.1 h⟩, fun h => ib.2 h.2⟩⟩
  · exact ⟨false, ev_neg hc (Ev.now _), ⟨fun h => (Bool.false_ne_true h).elim, fun h => absurd h.1 hc⟩⟩
theorem EvB.ite_not {c : Prop} [Decidable c] {A : Nat → Option Bool} {p : Prop} (h : EvB A p) : EvB (fun n => if c then some false else A n) (¬ c ∧ p) := by
  obtain ⟨b, hb, ib⟩ := h
  by_cases hc : c
  · exact ⟨false, ev_pos hc (Ev.now _), ⟨fun h => (Bool.false_ne_true h).elim, fun h => absurd hc h.1⟩⟩
  · exact ⟨b, ev_neg hc hb, ⟨fun h => ⟨hc, ib.1 h⟩, fun h => ib.2 h.2⟩⟩
theorem EvB.bind {g A : Nat → Option Bool} {p q : Prop} (h : EvB g p) (h' : EvB A q) : EvB (fun n => (g n).bind fun t => if t = true then A n else some false) (p ∧ q) := by
  obtain ⟨b, hb, ib⟩ := h
  obtain ⟨c, hc, ic⟩ := h'
  cases b with
  | true => exact ⟨c, Ev.bind hb (ev_pos rfl hc), ⟨fun h => ⟨ib.1 rfl, ic.1 h⟩, fun h => ic.2 h.2⟩⟩
  | false => exact ⟨false, Ev.bind hb (ev_neg (by decide) (Ev.now _)), ⟨fun h => (Bool.false_ne_true h).elim, fun h => absurd (ib.2 h.1) (by decide)⟩⟩
theorem EvB.last {g : Nat → Option Bool} {p : Prop} (h : EvB g p) : EvB (fun n => (g n).bind fun t => some t) p := by
  obtain ⟨b, hb, ib⟩ := h
  exact ⟨b, Ev.bind hb (Ev.now _), ib⟩
theorem EvB.same {g g' : Nat → Option Bool} {p : Prop} (h : EvB g p) (h' : EvB g' p) : ∃ b, Ev g b ∧ Ev g' b ∧ (b = true ↔ p) := by
  obtain ⟨b, hb, ib⟩ := h
  obtain ⟨c, hc, ic⟩ := h'
  obtain rfl : c = b := bool_eq_of_iff ic ib
  exact ⟨c, hb, hc, ib⟩
theorem EvB.bindE {g A B : Nat → Option Bool} {p q : Prop} (hB : Ev B false) (h : EvB g p) (h' : EvB A q) : EvB (fun n => (g n).bind fun t => if t = true then A n else B n) (p ∧ q) := by
  obtain ⟨b, hb, ib⟩ := h
  obtain ⟨c, hc, ic⟩ := h'
  cases b with
  | true => exact ⟨c, Ev.bind hb (ev_pos rfl hc), ⟨fun h => ⟨ib.1 rfl, ic.1 h⟩, fun h => ic.2 h.2⟩⟩
  | false => exact ⟨false, Ev.bind hb (ev_neg (by decide) hB), ⟨fun h => (Bool.false_ne_true h).elim, fun h => absurd (ib.2 h.1) (by decide)⟩⟩
theorem EvB.iteE {c : Prop} [Decidable c] {A B : Nat → Option Bool} {p : Prop} (hB : Ev B false) (h : EvB A p) : EvB (fun n => if c then A n else B n) (c ∧ p) := by
  obtain ⟨b, hb, ib⟩ := h
  by_cases hc : c
  · exact ⟨b, ev_pos hc hb, ⟨fun h => ⟨hc, ib.1 h⟩, fun h => ib.2 h.2⟩⟩
  · exact ⟨false, ev_neg hc hB, ⟨fun h => (Bool.false_ne_true h).elim, fun h => absurd h.1 hc⟩⟩
theorem EvB.bindN {g : Nat → Option Bool} {J : Nat → Bool → Option Bool} {p q : Prop} (hB : Ev (fun n => J n true) false) (h : EvB g p) (h' : EvB (fun n => J n false) q) : EvB (fun n => (g n).bind fun t => J n (!t)) (p ∧ q) := by
  obtain ⟨b, hb, ib⟩ := h
  obtain ⟨c, hc, ic⟩ := h'
  cases b with
  | true => exact ⟨c, Ev.bind hb hc, ⟨fun h => ⟨ib.1 rfl, ic.1 h⟩, fun h => ic.2 h.2⟩⟩
  | false => exact ⟨false, Ev.bind hb hB, ⟨fun h => (Bool.false_ne_true h).elim, fun h => absurd (ib.2 h.1) (by decide)⟩⟩
theorem EvB.succ {g : Nat → Option Bool} {p : Prop} (h : EvB (fun k => g (k + 1)) p) : EvB g p := by
  obtain ⟨b, hb, ib⟩ := h
  exact ⟨b, ev_succ hb, ib⟩
theorem EvB.true_ {p : Prop} (h : p) : EvB (fun _ => some true) p := ⟨true, Ev.now _, ⟨fun _ => h, fun _ => rfl⟩⟩
theorem EvB.false_ {p : Prop} (h : ¬ p) : EvB (fun _ => some false) p := ⟨false, Ev.now _, ⟨fun e => (Bool.false_ne_true e).elim, fun e => absurd e h⟩⟩
theorem EvB.pos {c : Prop} [Decidable c] {A B : Nat → Option Bool} {p : Prop} (hc : c) (h : EvB A p) : EvB (fun n => if c then A n else B n) p := by
  simpa only [if_pos hc] using h
theorem EvB.neg {c : Prop} [Decidable c] {A B : Nat → Option Bool} {p : Prop} (hc : ¬ c) (h : EvB B p) : EvB (fun n => if c then A n else B n) p := by
  simpa only [if_neg hc] using h

theorem wrap_i64_eq (n : Int) : IntKind.i64.wrap n = wrap64 n := by
  rw [IntKind.wrap_i64, wrap64]
theorem and_255 (x : Int) : 0 ≤ Go.bits .and .i64 x 255 ∧ Go.bits .and .i64 x 255 ≤ 255 := by
  have h : (BitVec.ofInt 64 x &&& BitVec.ofInt 64 255).toNat ≤ 255 := by
    rw [BitVec.toNat_and]
    exact Nat.le_trans Nat.and_le_right (by decide)
  show 0 ≤ IntKind.i64.wrap ((BitVec.ofInt 64 x &&& BitVec.ofInt 64 255).toNat : Int) ∧ IntKind.i64.wrap ((BitVec.ofInt 64 x &&& BitVec.ofInt 64 255).toNat : Int) ≤ 255
  generalize (BitVec.ofInt 64 x &&& BitVec.ofInt 64 255).toNat = m at h
  rw [wrap_i64_eq, w64 (by omega) (by omega)]
  omega
theorem new_loop (l : List Int) (hl : l.length ≤ 1048576) : ∀ (d n : Nat) (s : Int), n + d = l.length → ∃ s', Ev (fun k => spec_l1New.l0 k l s (n : Int)) (l, 0, s') := by
  have stop : ∀ (n s : Int), Ev (fun k => spec_l1New.j1 k l s n false) (l, 0, s) := by
    intro n s
    refine ev_succ ?_
    simp only [spec_l1New.j1]
    exact ev_neg (by decide) (Ev.now _)
  intro d
  induction d with
  | zero =>
    intro n s hn
    refine ⟨s, ev_succ ?_⟩
    simp only [spec_l1New.l0]
    exact ev_neg (by omega) (stop _ _)
  | succ d ih =>
    intro n s hn
    by_cases h : (n : Int) < 4000
    · obtain ⟨s', e⟩ := ih (n + 1) (Go.bits .and .i64 (wrap64 ((wrap64 ((wrap64 (s * 131)) + (wrap64 (rd l (n : Int))))) + 7)) 1073741823) (by omega)
      refine ⟨s', ev_succ ?_⟩
      simp only [spec_l1New.l0, decide_eq_true h]
      refine ev_pos (by omega) (ev_succ ?_)
      simp only [spec_l1New.j1]
      rw [w64_succ (m := l.length) (n := n) (by omega) (by omega)]
      exact ev_pos (by trivial) (ev_pos (by omega) (ev_pos (by omega) e))
    · refine ⟨s, ev_succ ?_⟩
      simp only [spec_l1New.l0, decide_eq_false h]
      exact ev_pos (by omega) (stop _ _)
theorem new_ev (l : List Int) (hl : l.length ≤ 1048576) : ∃ s, Ev (fun k => spec_l1New.f k l) (l, 0, s) := by
  unfold spec_l1New.f
  exact new_loop l hl l.length 0 _ (by omega)
def At_ (l : List Int) (pos : Int) : Prop := 0 ≤ pos ∧ pos ≤ l.length
theorem byte_eq {l : List Int} (hl : l.length ≤ 1048576) {pos : Int} (hp : At_ l pos) (s : Int) : ∃ b pos' s', spec_l1Byte.f l pos s = some (b, pos', s') ∧ 0 ≤ b ∧ b ≤ 255 ∧ At_ l pos' := by
  obtain ⟨h0, h1⟩ := hp
  unfold spec_l1Byte.f
  by_cases h : pos < (l.length : Int)
  · rw [if_pos h, if_pos h0]
    refine ⟨_, _, _, rfl, (and_255 _).1, (and_255 _).2, ?_⟩
    rw [w64 (by omega) (by omega)]
    exact ⟨by omega, by omega⟩
  · rw [if_neg h]
    exact ⟨_, _, _, rfl, (and_255 _).1, (and_255 _).2, h0, h1⟩
theorem tmod_bd {x a : Int} (h0 : 0 ≤ x) (ha : 1 ≤ a) : 0 ≤ Int.tmod x a ∧ Int.tmod x a < a := by
  rw [Int.tmod_eq_emod_of_nonneg h0]
  exact ⟨Int.emod_nonneg _ (by omega), Int.emod_lt_of_pos _ (by omega)⟩
theorem below_eq {l : List Int} (hl : l.length ≤ 1048576) {pos : Int} (hp : At_ l pos) (s : Int) {a : Int} (ha : 1 ≤ a) : ∃ v pos' s', spec_l1Below.f l pos s a = some (v, pos', s') ∧ 0 ≤ v ∧ v < a ∧ At_ l pos' := by
  unfold spec_l1Below.f
  rw [if_neg (by omega)]
  obtain ⟨b0, p0, s0, e0, l0, u0, q0⟩ := byte_eq hl hp s
  obtain ⟨b1, p1, s1, e1, l1, u1, q1⟩ := byte_eq hl q0 s0
  obtain ⟨b2, p2, s2, e2, l2, u2, q2⟩ := byte_eq hl q1 s1
  obtain ⟨b3, p3, s3, e3, l3, u3, q3⟩ := byte_eq hl q2 s2
  by_cases h : a ≤ 256
  · rw [if_pos h, e0]
    simp only [Option.bind_some]
    rw [if_neg (by omega)]
    obtain ⟨t0, t1⟩ := tmod_bd l0 ha
    exact ⟨_, _, _, rfl, t0, t1, q0⟩
  · rw [if_neg h, e0]
    simp only [Option.bind_some, e1, e2, e3]
    rw [if_neg (by omega)]
    have w0 : wrap64 (b0 * 16777216) = b0 * 16777216 := w64 (by omega) (by omega)
    have w1 : wrap64 (b1 * 65536) = b1 * 65536 := w64 (by omega) (by omega)
    have w2 : wrap64 (b2 * 256) = b2 * 256 := w64 (by omega) (by omega)
    have w3 : wrap64 (b0 * 16777216 + b1 * 65536) = b0 * 16777216 + b1 * 65536 := w64 (by omega) (by omega)
    have w4 : wrap64 (b0 * 16777216 + b1 * 65536 + b2 * 256) = b0 * 16777216 + b1 * 65536 + b2 * 256 := w64 (by omega) (by omega)
    have w5 : wrap64 (b0 * 16777216 + b1 * 65536 + b2 * 256 + b3) = b0 * 16777216 + b1 * 65536 + b2 * 256 + b3 := w64 (by omega) (by omega)
    rw [w0, w1, w2, w3, w4, w5]
    obtain ⟨t0, t1⟩ := tmod_bd (x := b0 * 16777216 + b1 * 65536 + b2 * 256 + b3) (by omega) ha
    exact ⟨_, _, _, rfl, t0, t1, q3⟩

theorem big_ev {l : List Int} (h : l.length ≤ 1048576) : laws_big.f l = some false := by
  unfold laws_big.f
  rw [decide_eq_false (by omega)]
theorem big_big {l : List Int} (h : ¬ l.length ≤ 1048576) : laws_big.f l = some true := by
  unfold laws_big.f
  rw [decide_eq_true (by omega)]

/-! whole numbers in floating point: what is exact -/
open Ieee (Datum) in
/-- What a datum stands for is n * 2 ^ e. -/
def RepE (D : Datum) (n e : Int) : Prop := ∃ s m p, ∃ a b : Nat, D = .number s m p ∧ (a : Int) + e = b + p ∧ Ieee.signed s m a = n * 2 ^ b
/-- What a datum stands for is the whole number n. -/
abbrev Rep (D : Ieee.Datum) (n : Int) : Prop := RepE D n 0
def sg (s : Bool) : Int := if s then -1 else 1
theorem signed_eq (s : Bool) (m a : Nat) : Ieee.signed s m a = sg s * m * 2 ^ a := by
  unfold Ieee.signed sg
  rw [Nat.shiftLeft_eq]
  split
  · rw [Int.natCast_mul, Int.natCast_pow]; show -((m : Int) * 2 ^ a) = _; rw [Int.neg_mul, Int.one_mul, Int.neg_mul]
  · rw [Int.natCast_mul, Int.natCast_pow, Int.one_mul]; rfl
theorem p2 (b : Nat) : (0 : Int) < 2 ^ b := Int.pow_pos (by decide)
theorem cancel2 {x y : Int} (b : Nat) (h : x * 2 ^ b = y * 2 ^ b) : x = y := Int.eq_of_mul_eq_mul_right (Int.ne_of_gt (p2 b)) h
theorem sg_sq (s : Bool) : sg s * sg s = 1 := by cases s <;> rfl
theorem sg_xor (s t : Bool) : sg (s ^^ t) = sg s * sg t := by cases s <;> cases t <;> rfl
/-- All ways to write the place are alike. -/
theorem rep_all {s : Bool} {m : Nat} {p n e : Int} (h : RepE (.number s m p) n e) (a b : Nat) (hab : (a : Int) + e = b + p) : sg s * m * 2 ^ a = n * 2 ^ b := by
  obtain ⟨s', m', p', a', b', hD, hp, hv⟩ := h
  cases hD
  rw [signed_eq] at hv
  apply cancel2 b'
  have e : a + b' = a' + b := by omega
  rw [Int.mul_assoc, ← Int.pow_add, e, Int.pow_add, ← Int.mul_assoc, hv, Int.mul_assoc, Int.mul_comm (2 ^ b') (2 ^ b), ← Int.mul_assoc]
theorem rep_of {s : Bool} {m : Nat} {p n e : Int} (a b : Nat) (hab : (a : Int) + e = b + p) (h : sg s * m * 2 ^ a = n * 2 ^ b) : RepE (.number s m p) n e := ⟨s, m, p, a, b, rfl, hab, by rw [signed_eq]; exact h⟩
theorem rep_num {D : Ieee.Datum} {n e : Int} (h : RepE D n e) : ∃ s m p, D = .number s m p := by
  obtain ⟨s, m, p, _, _, h, _⟩ := h
  exact ⟨s, m, p, h⟩
theorem sg_natAbs (n : Int) : sg (decide (n < 0)) * n.natAbs = n := by
  unfold sg
  by_cases h : n < 0
  · simp only [h, decide_true, if_true]; omega
  · simp only [h, decide_false]; simp; omega
theorem rep_opp {D : Ieee.Datum} {n e : Int} (h : RepE D n e) : RepE D.opposite (-n) e := by
  obtain ⟨s, m, p, rfl⟩ := rep_num h
  refine rep_of ((p - e).toNat) ((e - p).toNat) (by omega) ?_
  have := rep_all h (p - e).toNat (e - p).toNat (by omega)
  rw [Int.neg_mul, ← this, show sg (!s) = -sg s by cases s <;> rfl, Int.neg_mul, Int.neg_mul]
theorem rep_sum {D E : Ieee.Datum} {x y e : Int} (h : RepE D x e) (h' : RepE E y e) : ∃ S, D.sum E = some S ∧ RepE S (x + y) e := by
  obtain ⟨s, m, i, rfl⟩ := rep_num h
  obtain ⟨t, n, j, rfl⟩ := rep_num h'
  refine ⟨_, rfl, ?_⟩
  refine rep_of (min i j - e).toNat (e - min i j).toNat (by omega) ?_
  generalize hT : Ieee.signed s m (i - min i j).toNat + Ieee.signed t n (j - min i j).toNat = T
  have e1 := rep_all h ((i - min i j).toNat + (min i j - e).toNat) (e - min i j).toNat (by omega)
  have e2 := rep_all h' ((j - min i j).toNat + (min i j - e).toNat) (e - min i j).toNat (by omega)
  have e0 : sg (if T = 0 then s && t else decide (T < 0)) * T.natAbs = T := by
    split
    · rename_i h0; rw [h0]; simp
    · exact sg_natAbs T
  rw [e0, ← hT, signed_eq, signed_eq, Int.add_mul, Int.mul_assoc, ← Int.pow_add, e1, Int.mul_assoc (sg t * n), ← Int.pow_add, e2, Int.add_mul]
theorem rep_product {D E : Ieee.Datum} {x y e d : Int} (h : RepE D x e) (h' : RepE E y d) : ∃ S, D.product E = some S ∧ RepE S (x * y) (e + d) := by
  obtain ⟨s, m, i, rfl⟩ := rep_num h
  obtain ⟨t, n, j, rfl⟩ := rep_num h'
  refine ⟨_, rfl, ?_⟩
  have e1 := rep_all h (i - e).toNat (e - i).toNat (by omega)
  have e2 := rep_all h' (j - d).toNat (d - j).toNat (by omega)
  refine rep_of ((i - e).toNat + (j - d).toNat) ((e - i).toNat + (d - j).toNat) (by omega) ?_
  rw [sg_xor, Int.natCast_mul, Int.pow_add, Int.pow_add]
  calc sg s * sg t * ((m : Int) * n) * (2 ^ (i - e).toNat * 2 ^ (j - d).toNat) = (sg s * m * 2 ^ (i - e).toNat) * (sg t * n * 2 ^ (j - d).toNat) := by ac_rfl
    _ = x * y * (2 ^ (e - i).toNat * 2 ^ (d - j).toNat) := by rw [e1, e2]; ac_rfl
theorem log2_mul2 {m : Nat} (h : m ≠ 0) (a : Nat) : (m * 2 ^ a).log2 = m.log2 + a := by
  induction a with
  | zero => simp
  | succ a ih =>
    rw [Nat.pow_succ, ← Nat.mul_assoc, Nat.mul_comm, Nat.log2_two_mul (by have := Nat.two_pow_pos a; exact Nat.mul_ne_zero h (by omega)), ih]
    omega
theorem cut_exact (s : Bool) (N d : Nat) (hN : 0 < N) : Ieee.Toward.even.cut s (N * 2 ^ d) d = N := by
  have hl : min d ((N * 2 ^ d).log2 + 2) = d := by rw [log2_mul2 (by omega)]; omega
  have hp := Nat.two_pow_pos d
  unfold Ieee.Toward.cut
  simp only [hl, Nat.shiftLeft_eq, Nat.one_mul, Nat.mul_mod_left, Nat.mul_div_cancel _ hp, Nat.mul_zero]
  have h1 : decide (2 ^ d < 0) = false := by simp
  have h2 : (2 ^ d == 0) = false := by simp
  simp [h1, h2]
theorem read_word {s : Bool} {k L : Nat} (h1 : L = 0 ∨ 2 ^ 52 ≤ k) (h2 : k < 2 ^ 53) (h3 : L ≤ 2045) : Ieee.double.read (Ieee.double.word s (L * 2 ^ 52 + k)) = .number s k (-1074 + L) := by
  have hw : Ieee.double.signWeight = 2 ^ 63 := rfl
  have hb : Ieee.double.binade = 2 ^ 52 := rfl
  have hi : Ieee.double.infRung = 2047 * 2 ^ 52 := rfl
  have hp : Ieee.double.leastPlace = -1074 := rfl
  have hr : Ieee.double.word s (L * 2 ^ 52 + k) % 2 ^ 63 = L * 2 ^ 52 + k := by
    unfold Ieee.Format.word; rw [hw]; split <;> omega
  have hs : (Ieee.double.word s (L * 2 ^ 52 + k) / 2 ^ 63 % 2 == 1) = s := by
    unfold Ieee.Format.word; rw [hw]; cases s
    · simp only [Bool.false_eq_true, if_false, beq_eq_false_iff_ne]; omega
    · simp only [if_true, beq_iff_eq]; omega
  unfold Ieee.Format.read
  simp only [hw, hb, hi, hp, hr, hs]
  by_cases hk : L * 2 ^ 52 + k < 2 ^ 52
  · rw [if_pos hk, show L = 0 by omega]; simp
  · rw [if_neg hk, if_pos (by omega), show 2 ^ 52 + (L * 2 ^ 52 + k) % 2 ^ 52 = k by omega, show (L * 2 ^ 52 + k) / 2 ^ 52 - 1 = L by omega]
theorem rep_write {s : Bool} {m : Nat} {p n e : Int} (h : RepE (.number s m p) n e) (hn : n.natAbs < 2 ^ 53) (he : -1074 ≤ e) (he' : e ≤ 104) : RepE (Ieee.double.read (Ieee.double.nearest s m p)) n e := by
  unfold Ieee.Format.nearest
  by_cases hm : m = 0
  · rw [if_pos hm]
    have e1 := rep_all h (p - e).toNat (e - p).toNat (by omega)
    rw [hm] at e1
    have : n = 0 := cancel2 (e - p).toNat (by rw [← e1]; simp)
    rw [this]
    exact ⟨s, 0, -1074, 0, (1074 + e).toNat, by cases s <;> rfl, by omega, by rw [signed_eq]; simp⟩
  rw [if_neg hm]
  have e1 := rep_all h (p - e).toNat (e - p).toNat (by omega)
  have hab : ∀ a b : Nat, (a : Int) + e = b + p → m * 2 ^ a = n.natAbs * 2 ^ b := by
    intro a b hab
    have e2 := congrArg Int.natAbs (rep_all h a b hab)
    rw [Int.natAbs_mul, Int.natAbs_mul, Int.natAbs_mul, show (sg s).natAbs = 1 by cases s <;> rfl, Nat.one_mul, Int.natAbs_natCast, Int.natAbs_pow, Int.natAbs_pow] at e2
    exact e2
  have hN : n.natAbs ≠ 0 := by
    intro h0
    have := hab (p - e).toNat (e - p).toNat (by omega)
    rw [h0, Nat.zero_mul] at this
    have h2 := Nat.two_pow_pos (p - e).toNat
    exact (Nat.mul_ne_zero hm (by omega)) this
  have hsg : sg s * n.natAbs = n := by
    apply cancel2 (e - p).toNat
    have e2 := hab (p - e).toNat (e - p).toNat (by omega)
    have e3 : (m : Int) * 2 ^ (p - e).toNat = n.natAbs * 2 ^ (e - p).toNat := by have := congrArg (fun z : Nat => (z : Int)) e2; simpa [Int.natCast_mul, Int.natCast_pow] using this
    rw [Int.mul_assoc, ← e3, ← e1, Int.mul_assoc]
  generalize hNN : n.natAbs = N at *
  have ht : p + m.log2 = N.log2 + e := by
    have e2 := congrArg Nat.log2 (hab (p - e).toNat (e - p).toNat (by omega))
    rw [log2_mul2 hm, log2_mul2 hN] at e2
    omega
  have htt : N.log2 ≤ 52 := by have := (Nat.log2_lt hN).2 hn; omega
  have hlast : max (p + m.log2 - Ieee.double.fractionBits) Ieee.double.leastPlace = max ((N.log2 : Int) + e - 52) (-1074) := by
    rw [ht]; rfl
  dsimp only
  rw [hlast]
  generalize hl : max ((N.log2 : Int) + e - 52) (-1074) = l
  have hle : l ≤ e := by omega
  have hkept : Ieee.Toward.even.cut s (m <<< (p - l).toNat) (l - p).toNat = N * 2 ^ (e - l).toNat := by
    rw [Nat.shiftLeft_eq]
    by_cases hp : l ≤ p
    · rw [show (l - p).toNat = 0 by omega, hab (p - l).toNat (e - l).toNat (by omega)]
      have := cut_exact s (N * 2 ^ (e - l).toNat) 0 (by have := Nat.two_pow_pos (e - l).toNat; exact Nat.pos_of_ne_zero (Nat.mul_ne_zero hN (by omega)))
      simpa using this
    · rw [show (p - l).toNat = 0 by omega]
      have e2 := hab 0 (e - p).toNat (by omega)
      rw [e2, show (e - p).toNat = (e - l).toNat + (l - p).toNat by omega, Nat.pow_add, ← Nat.mul_assoc]
      exact cut_exact s _ _ (by have := Nat.two_pow_pos (e - l).toNat; exact Nat.pos_of_ne_zero (Nat.mul_ne_zero hN (by omega)))
  rw [hkept]
  have hk1 : (l + 1074).toNat = 0 ∨ 2 ^ 52 ≤ N * 2 ^ (e - l).toNat := by
    by_cases hl0 : l + 1074 ≤ 0
    · exact .inl (by omega)
    refine .inr ?_
    have h1 : 2 ^ N.log2 ≤ N := Nat.log2_self_le hN
    have h2 := Nat.mul_le_mul_right (2 ^ (e - l).toNat) h1
    rwa [← Nat.pow_add, show N.log2 + (e - l).toNat = 52 by omega] at h2
  have hk2 : N * 2 ^ (e - l).toNat < 2 ^ 53 := by
    have h1 : N < 2 ^ (N.log2 + 1) := Nat.lt_log2_self
    have h2 := Nat.mul_lt_mul_of_pos_right h1 (Nat.two_pow_pos (e - l).toNat)
    rw [← Nat.pow_add] at h2
    exact Nat.lt_of_lt_of_le h2 (Nat.pow_le_pow_right (by decide) (by omega))
  have hL : (l - Ieee.double.leastPlace).toNat = (l + 1074).toNat := by
    rw [show Ieee.double.leastPlace = -1074 from rfl]; omega
  rw [hL, show Ieee.double.binade = 2 ^ 52 from rfl, show Ieee.double.infRung = 2047 * 2 ^ 52 from rfl]
  have hll : (l + 1074).toNat ≤ 2045 := by omega
  rw [Nat.min_eq_left (by omega), read_word hk1 hk2 hll]
  refine rep_of 0 (e - l).toNat (by omega) ?_
  rw [Int.natCast_mul, Int.natCast_pow, Int.pow_zero, Int.mul_one, ← Int.mul_assoc, hsg]
  rfl
theorem read_word32 {s : Bool} {k L : Nat} (h1 : L = 0 ∨ 2 ^ 23 ≤ k) (h2 : k < 2 ^ 24) (h3 : L ≤ 253) : Ieee.single.read (Ieee.single.word s (L * 2 ^ 23 + k)) = .number s k (-149 + L) := by
  have hw : Ieee.single.signWeight = 2 ^ 31 := rfl
  have hb : Ieee.single.binade = 2 ^ 23 := rfl
  have hi : Ieee.single.infRung = 255 * 2 ^ 23 := rfl
  have hp : Ieee.single.leastPlace = -149 := rfl
  have hr : Ieee.single.word s (L * 2 ^ 23 + k) % 2 ^ 31 = L * 2 ^ 23 + k := by
    unfold Ieee.Format.word; rw [hw]; split <;> omega
  have hs : (Ieee.single.word s (L * 2 ^ 23 + k) / 2 ^ 31 % 2 == 1) = s := by
    unfold Ieee.Format.word; rw [hw]; cases s
    · simp only [Bool.false_eq_true, if_false, beq_eq_false_iff_ne]; omega
    · simp only [if_true, beq_iff_eq]; omega
  unfold Ieee.Format.read
  simp only [hw, hb, hi, hp, hr, hs]
  by_cases hk : L * 2 ^ 23 + k < 2 ^ 23
  · rw [if_pos hk, show L = 0 by omega]; simp
  · rw [if_neg hk, if_pos (by omega), show 2 ^ 23 + (L * 2 ^ 23 + k) % 2 ^ 23 = k by omega, show (L * 2 ^ 23 + k) / 2 ^ 23 - 1 = L by omega]
theorem rep_write32 {s : Bool} {m : Nat} {p n e : Int} (h : RepE (.number s m p) n e) (hn : n.natAbs < 2 ^ 24) (he : -149 ≤ e) (he' : e ≤ 104) : RepE (Ieee.single.read (Ieee.single.nearest s m p)) n e := by
  unfold Ieee.Format.nearest
  by_cases hm : m = 0
  · rw [if_pos hm]
    have e1 := rep_all h (p - e).toNat (e - p).toNat (by omega)
    rw [hm] at e1
    have : n = 0 := cancel2 (e - p).toNat (by rw [← e1]; simp)
    rw [this]
    exact ⟨s, 0, -149, 0, (149 + e).toNat, by cases s <;> rfl, by omega, by rw [signed_eq]; simp⟩
  rw [if_neg hm]
  have e1 := rep_all h (p - e).toNat (e - p).toNat (by omega)
  have hab : ∀ a b : Nat, (a : Int) + e = b + p → m * 2 ^ a = n.natAbs * 2 ^ b := by
    intro a b hab
    have e2 := congrArg Int.natAbs (rep_all h a b hab)
    rw [Int.natAbs_mul, Int.natAbs_mul, Int.natAbs_mul, show (sg s).natAbs = 1 by cases s <;> rfl, Nat.one_mul, Int.natAbs_natCast, Int.natAbs_pow, Int.natAbs_pow] at e2
    exact e2
  have hN : n.natAbs ≠ 0 := by
    intro h0
    have := hab (p - e).toNat (e - p).toNat (by omega)
    rw [h0, Nat.zero_mul] at this
    have h2 := Nat.two_pow_pos (p - e).toNat
    exact (Nat.mul_ne_zero hm (by omega)) this
  have hsg : sg s * n.natAbs = n := by
    apply cancel2 (e - p).toNat
    have e2 := hab (p - e).toNat (e - p).toNat (by omega)
    have e3 : (m : Int) * 2 ^ (p - e).toNat = n.natAbs * 2 ^ (e - p).toNat := by have := congrArg (fun z : Nat => (z : Int)) e2; simpa [Int.natCast_mul, Int.natCast_pow] using this
    rw [Int.mul_assoc, ← e3, ← e1, Int.mul_assoc]
  generalize hNN : n.natAbs = N at *
  have ht : p + m.log2 = N.log2 + e := by
    have e2 := congrArg Nat.log2 (hab (p - e).toNat (e - p).toNat (by omega))
    rw [log2_mul2 hm, log2_mul2 hN] at e2
    omega
  have htt : N.log2 ≤ 23 := by have := (Nat.log2_lt hN).2 hn; omega
  have hlast : max (p + m.log2 - Ieee.single.fractionBits) Ieee.single.leastPlace = max ((N.log2 : Int) + e - 23) (-149) := by
    rw [ht]; rfl
  dsimp only
  rw [hlast]
  generalize hl : max ((N.log2 : Int) + e - 23) (-149) = l
  have hle : l ≤ e := by omega
  have hkept : Ieee.Toward.even.cut s (m <<< (p - l).toNat) (l - p).toNat = N * 2 ^ (e - l).toNat := by
    rw [Nat.shiftLeft_eq]
    by_cases hp : l ≤ p
    · rw [show (l - p).toNat = 0 by omega, hab (p - l).toNat (e - l).toNat (by omega)]
      have := cut_exact s (N * 2 ^ (e - l).toNat) 0 (by have := Nat.two_pow_pos (e - l).toNat; exact Nat.pos_of_ne_zero (Nat.mul_ne_zero hN (by omega)))
      simpa using this
    · rw [show (p - l).toNat = 0 by omega]
      have e2 := hab 0 (e - p).toNat (by omega)
      rw [e2, show (e - p).toNat = (e - l).toNat + (l - p).toNat by omega, Nat.pow_add, ← Nat.mul_assoc]
      exact cut_exact s _ _ (by have := Nat.two_pow_pos (e - l).toNat; exact Nat.pos_of_ne_zero (Nat.mul_ne_zero hN (by omega)))
  rw [hkept]
  have hk1 : (l + 149).toNat = 0 ∨ 2 ^ 23 ≤ N * 2 ^ (e - l).toNat := by
    by_cases hl0 : l + 149 ≤ 0
    · exact .inl (by omega)
    refine .inr ?_
    have h1 : 2 ^ N.log2 ≤ N := Nat.log2_self_le hN
    have h2 := Nat.mul_le_mul_right (2 ^ (e - l).toNat) h1
    rwa [← Nat.pow_add, show N.log2 + (e - l).toNat = 23 by omega] at h2
  have hk2 : N * 2 ^ (e - l).toNat < 2 ^ 24 := by
    have h1 : N < 2 ^ (N.log2 + 1) := Nat.lt_log2_self
    have h2 := Nat.mul_lt_mul_of_pos_right h1 (Nat.two_pow_pos (e - l).toNat)
    rw [← Nat.pow_add] at h2
    exact Nat.lt_of_lt_of_le h2 (Nat.pow_le_pow_right (by decide) (by omega))
  have hL : (l - Ieee.single.leastPlace).toNat = (l + 149).toNat := by
    rw [show Ieee.single.leastPlace = -149 from rfl]; omega
  rw [hL, show Ieee.single.binade = 2 ^ 23 from rfl, show Ieee.single.infRung = 255 * 2 ^ 23 from rfl]
  have hll : (l + 149).toNat ≤ 253 := by omega
  rw [Nat.min_eq_left (by omega), read_word32 hk1 hk2 hll]
  refine rep_of 0 (e - l).toNat (by omega) ?_
  rw [Int.natCast_mul, Int.natCast_pow, Int.pow_zero, Int.mul_one, ← Int.mul_assoc, hsg]
  rfl
/-- The float is the whole number n. -/
def Z (x : Fl) (n : Int) : Prop := ∃ b, x = some b ∧ Rep (Ieee.double.read b) n
theorem rep_nan {D : Ieee.Datum} {n e : Int} (h : RepE D n e) : D.isNaN = false := by obtain ⟨s, m, p, rfl⟩ := rep_num h; rfl
theorem z_write {D : Ieee.Datum} {n : Int} (h : Rep D n) (hn : n.natAbs < 2 ^ 53) : Z (cn .f64 (Ieee.double.write D)) n := by
  obtain ⟨s, m, p, rfl⟩ := rep_num h
  have h2 := rep_write h hn (by decide) (by decide)
  exact ⟨_, cn_not (rep_nan h2), h2⟩
theorem rep_whole (n : Int) : Rep (.number (n < 0) n.natAbs 0) n := rep_of 0 0 rfl (by rw [sg_natAbs])
theorem z_fint {n : Int} (hn : n.natAbs < 2 ^ 53) : Z (fint .f64 n) n := z_write (rep_whole n) hn
theorem z_const {b : Nat} {n : Int} (h : Rep (Ieee.double.read b) n) : Z (cn .f64 b) n := ⟨b, cn_not (rep_nan h), h⟩
theorem z_zero : Z (cn .f64 0) 0 := z_const ⟨false, 0, -1074, 0, 1074, rfl, by decide, by rw [signed_eq, Int.zero_mul]; rfl⟩
theorem z_one : Z (cn .f64 4607182418800017408) 1 := z_const ⟨false, 4503599627370496, -52, 0, 52, rfl, by decide, by decide⟩
theorem z_op {op : BinOp} {g : Ieee.Format → Nat → Nat → Option Nat} (hop : ∀ a b, floatBits op .f64 a b = g Ieee.double a b) {a b : Nat} {S : Ieee.Datum} {n : Int} (hg : g Ieee.double a b = some (Ieee.double.write S)) (hS : Rep S n) (hn : n.natAbs < 2 ^ 53) : Z (fop op .f64 (some a) (some b)) n := by
  unfold fop
  show Z ((floatBits op .f64 a b).bind fun r => cn .f64 r) n
  rw [hop, hg]
  exact z_write hS hn
theorem z_add {x y : Fl} {m n : Int} (hx : Z x m) (hy : Z y n) (h : (m + n).natAbs < 2 ^ 53) : Z (fop .add .f64 x y) (m + n) := by
  obtain ⟨a, rfl, ha⟩ := hx
  obtain ⟨b, rfl, hb⟩ := hy
  obtain ⟨S, e, hS⟩ := rep_sum ha hb
  exact z_op (g := Ieee.Format.add) (fun _ _ => rfl) (by unfold Ieee.Format.add; rw [e]; rfl) hS h
theorem z_sub {x y : Fl} {m n : Int} (hx : Z x m) (hy : Z y n) (h : (m - n).natAbs < 2 ^ 53) : Z (fop .sub .f64 x y) (m - n) := by
  obtain ⟨a, rfl, ha⟩ := hx
  obtain ⟨b, rfl, hb⟩ := hy
  obtain ⟨S, e, hS⟩ := rep_sum ha (rep_opp hb)
  exact z_op (g := Ieee.Format.sub) (fun _ _ => rfl) (by unfold Ieee.Format.sub; rw [e]; rfl) hS h
theorem z_mul {x y : Fl} {m n : Int} (hx : Z x m) (hy : Z y n) (h : (m * n).natAbs < 2 ^ 53) : Z (fop .mul .f64 x y) (m * n) := by
  obtain ⟨a, rfl, ha⟩ := hx
  obtain ⟨b, rfl, hb⟩ := hy
  obtain ⟨S, e, hS⟩ := rep_product ha hb
  exact z_op (g := Ieee.Format.mul) (fun _ _ => rfl) (by unfold Ieee.Format.mul; rw [e]; rfl) hS h
theorem rep_order {D E : Ieee.Datum} {x y e : Int} (h : RepE D x e) (h' : RepE E y e) : D.order E = some (compare x y) := by
  obtain ⟨s, m, i, rfl⟩ := rep_num h
  obtain ⟨t, n, j, rfl⟩ := rep_num h'
  show some (compare (Ieee.signed s m (i - min i j).toNat) (Ieee.signed t n (j - min i j).toNat)) = _
  have e1 := rep_all h ((i - min i j).toNat + (min i j - e).toNat) (e - min i j).toNat (by omega)
  have e2 := rep_all h' ((j - min i j).toNat + (min i j - e).toNat) (e - min i j).toNat (by omega)
  rw [Int.pow_add, ← Int.mul_assoc, ← signed_eq] at e1 e2
  generalize Ieee.signed s m (i - min i j).toNat = X at *
  generalize Ieee.signed t n (j - min i j).toNat = Y at *
  have p1 := p2 (min i j - e).toNat
  have p3 := p2 (e - min i j).toNat
  have l : X < Y ↔ x < y := by
    constructor
    · intro h
      have h2 := Int.mul_lt_mul_of_pos_right h p1
      rw [e1, e2] at h2
      exact Int.lt_of_mul_lt_mul_right h2 (Int.le_of_lt p3)
    · intro h
      have h2 := Int.mul_lt_mul_of_pos_right h p3
      rw [← e1, ← e2] at h2
      exact Int.lt_of_mul_lt_mul_right h2 (Int.le_of_lt p1)
  have q : X = Y ↔ x = y := by
    constructor
    · intro h
      subst h
      exact cancel2 _ (e1.symm.trans e2)
    · intro h
      subst h
      exact cancel2 _ (e1.trans e2.symm)
  show some (compareOfLessAndEq X Y) = some (compareOfLessAndEq x y)
  unfold compareOfLessAndEq
  simp only [l, q]
theorem z_ord {x y : Fl} {m n : Int} (hx : Z x m) (hy : Z y n) : ford .f64 x y = some (compare m n) := by
  obtain ⟨a, rfl, ha⟩ := hx
  obtain ⟨b, rfl, hb⟩ := hy
  exact rep_order ha hb
theorem cmpI (m n : Int) : compare m n = if m < n then .lt else if m = n then .eq else .gt := rfl
theorem z_eql {x y : Fl} {m n : Int} (hx : Z x m) (hy : Z y n) : fcmp .eql .f64 x y = decide (m = n) := by
  unfold fcmp; simp only [z_ord hx hy, cmpI]
  by_cases h1 : m < n
  · have : m ≠ n := by omega
    simp [h1, this]
  · by_cases h2 : m = n <;> simp [h1, h2]
theorem z_neq {x y : Fl} {m n : Int} (hx : Z x m) (hy : Z y n) : fcmp .neq .f64 x y = decide (m ≠ n) := by
  unfold fcmp; simp only [z_ord hx hy, cmpI]
  by_cases h1 : m < n
  · have : m ≠ n := by omega
    simp [h1, this]
  · by_cases h2 : m = n <;> simp [h1, h2]
theorem z_lss {x y : Fl} {m n : Int} (hx : Z x m) (hy : Z y n) : fcmp .lss .f64 x y = decide (m < n) := by
  unfold fcmp; simp only [z_ord hx hy, cmpI]
  by_cases h1 : m < n
  · simp [h1]
  · by_cases h2 : m = n <;> simp [h1, h2]

/-! complex whole numbers -/
def mulI (z w : Int × Int) : Int × Int := (z.1 * w.1 - z.2 * w.2, z.1 * w.2 + z.2 * w.1)
def B (A : Nat) (z : Int × Int) : Prop := z.1.natAbs ≤ A ∧ z.2.natAbs ≤ A
theorem na_mul {a b : Int} {A C : Nat} (h : a.natAbs ≤ A) (h' : b.natAbs ≤ C) : (a * b).natAbs ≤ A * C := by
  rw [Int.natAbs_mul]
  exact Nat.mul_le_mul h h'
theorem mulI_bd {z w : Int × Int} {A C : Nat} (h : B A z) (h' : B C w) : B (2 * (A * C)) (mulI z w) := by
  have a1 := na_mul h.1 h'.1
  have a2 := na_mul h.2 h'.2
  have a3 := na_mul h.1 h'.2
  have a4 := na_mul h.2 h'.1
  unfold mulI
  constructor <;> dsimp only <;> omega
/-- The product, as the code forms it. -/
theorem z_times {a b c d : Fl} {z w : Int × Int} {A C : Nat} (ha : Z a z.1) (hb : Z b z.2) (hc : Z c w.1) (hd : Z d w.2) (h : B A z) (h' : B C w) (hAC : A * C < 2 ^ 50) : Z (fop .sub .f64 (fop .mul .f64 a c) (fop .mul .f64 b d)) (mulI z w).1 ∧ Z (fop .add .f64 (fop .mul .f64 a d) (fop .mul .f64 b c)) (mulI z w).2 := by
  have a1 := na_mul h.1 h'.1
  have a2 := na_mul h.2 h'.2
  have a3 := na_mul h.1 h'.2
  have a4 := na_mul h.2 h'.1
  unfold mulI
  exact ⟨z_sub (z_mul ha hc (by omega)) (z_mul hb hd (by omega)) (by omega), z_add (z_mul ha hd (by omega)) (z_mul hb hc (by omega)) (by omega)⟩

theorem single_read {a : Nat} {s : Bool} {m : Nat} {p : Int} (h : Ieee.single.read a = .number s m p) : m < 2 ^ 24 ∧ -149 ≤ p ∧ p ≤ 104 := by
  have hb : Ieee.single.binade = 2 ^ 23 := rfl
  have hi : Ieee.single.infRung = 255 * 2 ^ 23 := rfl
  have hp : Ieee.single.leastPlace = -149 := rfl
  unfold Ieee.Format.read at h
  simp only [hb, hi, hp] at h
  generalize a % Ieee.single.signWeight = r at h
  split at h
  · cases h; omega
  · split at h
    · cases h; omega
    · split at h <;> cases h
theorem read_big {s : Bool} {r : Nat} (h1 : 2047 * 2 ^ 52 ≤ r) (h2 : r < 2 ^ 63) : ∀ s' m p, Ieee.double.read (Ieee.double.word s r) ≠ .number s' m p := by
  have hw : Ieee.double.signWeight = 2 ^ 63 := rfl
  have hb : Ieee.double.binade = 2 ^ 52 := rfl
  have hi : Ieee.double.infRung = 2047 * 2 ^ 52 := rfl
  have hr : Ieee.double.word s r % 2 ^ 63 = r := by
    unfold Ieee.Format.word; rw [hw]; split <;> omega
  intro s' m p h
  unfold Ieee.Format.read at h
  simp only [hw, hb, hi, hr] at h
  rw [if_neg (by omega), if_neg (by omega)] at h
  split at h <;> cases h
theorem narr_some {y : Fl} (h : ∀ b, y = some b → ∀ s m p, Ieee.double.read b ≠ .number s m p) : ∃ z, fnarr y = some z := by
  unfold fnarr
  cases y with
  | none => exact ⟨_, rfl⟩
  | some b =>
    dsimp only
    split
    · exact ⟨_, rfl⟩
    · exact ⟨_, rfl⟩
    · rename_i e; exact absurd e (h b rfl _ _ _)
theorem inf32 (s : Bool) : Ieee.single.read (Ieee.single.word s Ieee.single.infRung) = .infinity s := by cases s <;> decide
theorem inf64 (s : Bool) : Ieee.double.read (Ieee.double.word s Ieee.double.infRung) = .infinity s := by cases s <;> decide
/-- A float32 made wide and narrow again. -/
theorem narrow_wide (x : Fl) : ∃ y, fnarr (fwide x) = some y ∧ (fcmp .neq .f32 y x = true → fcmp .eql .f32 x x = false) := by
  cases x with
  | none => exact ⟨none, rfl, fun _ => rfl⟩
  | some a =>
    show ∃ y, fnarr (cn .f64 (Ieee.double.write (Ieee.single.read a))) = some y ∧ _
    cases e : Ieee.single.read a with
    | nan s t =>
      obtain ⟨y, hy⟩ := narr_some (y := cn .f64 (Ieee.double.write (.nan s t))) (by
        intro b hb s' m p
        rw [(cn_some hb).1]
        have : t % Ieee.double.binade < 2 ^ 52 := Nat.mod_lt _ (Nat.two_pow_pos _)
        exact read_big (r := Ieee.double.infRung + t % Ieee.double.binade) (Nat.le_add_right _ _) (by rw [show Ieee.double.infRung = 2047 * 2 ^ 52 from rfl]; omega) s' m p)
      refine ⟨y, hy, fun _ => ?_⟩
      show (Ieee.Datum.order (Ieee.single.read a) (Ieee.single.read a) == some .eq) = false
      rw [e]; rfl
    | infinity s =>
      have h1 : cn .f64 (Ieee.double.write (.infinity s)) = some (Ieee.double.word s Ieee.double.infRung) := cn_not (by show (Ieee.double.read (Ieee.double.word s Ieee.double.infRung)).isNaN = false; rw [inf64]; rfl)
      have h2 : cn .f32 (Ieee.single.write (.infinity s)) = some (Ieee.single.word s Ieee.single.infRung) := cn_not (by show (Ieee.single.read (Ieee.single.word s Ieee.single.infRung)).isNaN = false; rw [inf32]; rfl)
      rw [h1]
      refine ⟨some (Ieee.single.word s Ieee.single.infRung), ?_, ?_⟩
      · unfold fnarr
        dsimp only
        have h3 : FloatKind.f64.decode (Ieee.double.word s Ieee.double.infRung) = .infinity s := inf64 s
        rw [h3]
        exact congrArg some h2
      · intro h
        have : (Ieee.Datum.order (Ieee.single.read (Ieee.single.word s Ieee.single.infRung)) (Ieee.single.read a) != some .eq) = true := h
        rw [e, inf32] at this
        exact absurd this (by cases s <;> decide)
    | number s m p =>
      obtain ⟨b1, b2, b3⟩ := single_read e
      have r0 : RepE (.number s m p) (sg s * m) p := rep_of 0 0 (by omega) rfl
      have hn : (sg s * (m : Int)).natAbs < 2 ^ 24 := by rw [Int.natAbs_mul, show (sg s).natAbs = 1 by cases s <;> rfl, Nat.one_mul, Int.natAbs_natCast]; exact b1
      have r1 : RepE (Ieee.double.read (Ieee.double.nearest s m p)) (sg s * m) p := rep_write r0 (by omega) (by omega) (by omega)
      have h1 : cn .f64 (Ieee.double.write (.number s m p)) = some (Ieee.double.nearest s m p) := cn_not (rep_nan r1)
      rw [h1]
      obtain ⟨s', m', p', e'⟩ := rep_num r1
      have r2 := r1
      rw [e'] at r2
      have r3 : RepE (Ieee.single.read (Ieee.single.nearest s' m' p')) (sg s * m) p := rep_write32 r2 hn (by omega) (by omega)
      have h2 : cn .f32 (Ieee.single.write (.number s' m' p')) = some (Ieee.single.nearest s' m' p') := cn_not (rep_nan r3)
      refine ⟨some (Ieee.single.nearest s' m' p'), ?_, ?_⟩
      · unfold fnarr
        dsimp only
        have h3 : FloatKind.f64.decode (Ieee.double.nearest s m p) = .number s' m' p' := e'
        rw [h3]
        dsimp only
        rw [if_neg]
        · exact congrArg some h2
        · obtain ⟨s2, m2, p2, e2⟩ := rep_num r3
          intro hc
          have : (Ieee.single.read (Ieee.single.nearest s' m' p')).isInfinity = true := hc
          rw [e2] at this
          cases this
      · intro h
        have hq : (Ieee.Datum.order (Ieee.single.read (Ieee.single.nearest s' m' p')) (Ieee.single.read a) != some .eq) = true := h
        have r4 := r0
        rw [← e] at r4
        rw [rep_order r3 r4, cmpI, if_neg (by omega), if_pos rfl] at hq
        exact absurd hq (by decide)
theorem product_comm (D E : Ieee.Datum) : D.product E = E.product D := by
  cases D <;> cases E <;> simp only [Ieee.Datum.product, Bool.xor_comm, Nat.mul_comm, Int.add_comm]
theorem sum_comm (D E : Ieee.Datum) : D.sum E = E.sum D := by
  cases D with
  | nan s t => cases E <;> rfl
  | infinity s =>
    cases E with
    | nan t u => rfl
    | infinity t =>
      show (if s = t then some (Ieee.Datum.infinity s) else none) = (if t = s then some (Ieee.Datum.infinity t) else none)
      by_cases h : s = t
      · subst h; rfl
      · rw [if_neg h, if_neg (fun e => h e.symm)]
    | number t n j => rfl
  | number s m i =>
    cases E with
    | nan t u => rfl
    | infinity t => rfl
    | number t n j =>
      show some _ = some _
      simp only [Int.min_comm i j, Int.add_comm (Ieee.signed s m _), Bool.and_comm]
theorem fop_comm {op : BinOp} (h : ∀ a b, floatBits op .f64 a b = floatBits op .f64 b a) (x y : Fl) : fop op .f64 x y = fop op .f64 y x := by
  unfold fop
  cases x <;> cases y <;> simp only [Option.bind_none, Option.bind_some]
  rw [h]
theorem mul_comm_ (x y : Fl) : fop .mul .f64 x y = fop .mul .f64 y x := fop_comm (fun a b => by show Ieee.double.mul a b = Ieee.double.mul b a; unfold Ieee.Format.mul; rw [product_comm]) x y
theorem add_comm_ (x y : Fl) : fop .add .f64 x y = fop .add .f64 y x := fop_comm (fun a b => by show Ieee.double.add a b = Ieee.double.add b a; unfold Ieee.Format.add; rw [sum_comm]) x y
theorem times_comm (a b c d : Fl) : impl_CxTimes.f a b c d = impl_CxTimes.f c d a b := by
  unfold impl_CxTimes.f
  rw [mul_comm_ a c, mul_comm_ b d, mul_comm_ a d, mul_comm_ b c, add_comm_]
theorem plus_comm (a b c d : Fl) : impl_CxAdd.f a b c d = impl_CxAdd.f c d a b := by
  unfold impl_CxAdd.f
  rw [add_comm_ a c, add_comm_ b d]
theorem same_self (x : Fl) : laws_sameBits.f x x = some true := by
  unfold laws_sameBits.f
  by_cases h : fcmp .eql .f64 x x = true
  · rw [if_pos h]
  · have h2 : fcmp .neq .f64 x x = true := by
      unfold fcmp at h ⊢
      dsimp only at h ⊢
      cases q : ford .f64 x x with
      | none => rfl
      | some o => rw [q] at h; cases o <;> first | rfl | exact absurd rfl h
    rw [if_neg h, if_pos h2, h2]
/-! what the draws answer -/
theorem once_eq {l : List Int} (hl : l.length ≤ 1048576) {pos : Int} (hp : At_ l pos) (s : Int) {a : Int} (ha : 1 ≤ a) : ∃ b pos' s', spec_l1Once.f l pos s a = some (b, pos', s') ∧ At_ l pos' := by
  obtain ⟨v, p, q, e, _, _, h⟩ := below_eq hl hp s ha
  unfold spec_l1Once.f
  rw [e]
  exact ⟨_, _, _, rfl, h⟩
theorem float_up (l : List Int) (p s : Int) : ∀ (n : Nat) (x : Fl), n ≤ 1000 → ∃ y, Ev (fun k => spec_l4DrawFloat.l0 k x (n : Int) l p s) (y, p, s) := by
  intro n
  induction n with
  | zero =>
    intro x _
    refine ⟨x, ev_succ ?_⟩
    simp only [spec_l4DrawFloat.l0]
    exact ev_neg (by omega) (Ev.now _)
  | succ n ih =>
    intro x hn
    obtain ⟨y, h⟩ := ih (fop .mul .f32 x (cn .f32 1082130432)) (by omega)
    refine ⟨y, ev_succ ?_⟩
    simp only [spec_l4DrawFloat.l0]
    rw [show wrap64 (((n + 1 : Nat) : Int) - 1) = (n : Int) by rw [w64 (by omega) (by omega)]; omega]
    exact ev_pos (by omega) h
theorem float_down (l : List Int) (p s : Int) : ∀ (n : Nat) (x : Fl), n ≤ 1000 → ∃ y, Ev (fun k => spec_l4DrawFloat.l1 k x (n : Int) l p s) (y, p, s) := by
  intro n
  induction n with
  | zero =>
    intro x _
    refine ⟨x, ev_succ ?_⟩
    simp only [spec_l4DrawFloat.l1]
    exact ev_neg (by omega) (Ev.now _)
  | succ n ih =>
    intro x hn
    obtain ⟨y, h⟩ := ih (fop .quo .f32 x (cn .f32 1082130432)) (by omega)
    refine ⟨y, ev_succ ?_⟩
    simp only [spec_l4DrawFloat.l1]
    rw [show wrap64 (((n + 1 : Nat) : Int) - 1) = (n : Int) by rw [w64 (by omega) (by omega)]; omega]
    exact ev_pos (by omega) h
theorem odd_eq (n : Int) (x : Fl) : ∃ y, spec_l4Odd.f n x = some y := by
  unfold spec_l4Odd.f
  split
  · exact ⟨_, rfl⟩
  · split
    · exact ⟨_, rfl⟩
    · split <;> exact ⟨_, rfl⟩
theorem float_j2 {l : List Int} (hl : l.length ≤ 1048576) {pos : Int} (hp : At_ l pos) (s : Int) (b : Bool) : ∃ x pos' s', Ev (fun k => spec_l4DrawFloat.j2 k b l pos s) (x, pos', s') ∧ At_ l pos' := by
  cases b with
  | true =>
    obtain ⟨v, p, q, e, _, _, h⟩ := below_eq hl hp s (a := 81) (by decide)
    refine ⟨fop .quo .f32 (fint .f32 (wrap64 (v - 40))) (cn .f32 1090519040), p, q, ev_succ ?_, h⟩
    simp only [spec_l4DrawFloat.j2, e, Option.bind_some]
    exact ev_pos (by trivial) (Ev.now _)
  | false =>
    obtain ⟨v, p, q, e, _, _, h⟩ := below_eq hl hp s (a := 21) (by decide)
    refine ⟨fint .f32 (wrap64 (v - 10)), p, q, ev_succ ?_, h⟩
    simp only [spec_l4DrawFloat.j2, e, Option.bind_some]
    exact ev_neg (by decide) (Ev.now _)
theorem float_ev {l : List Int} (hl : l.length ≤ 1048576) {pos : Int} (hp : At_ l pos) (s : Int) : ∃ x pos' s', Ev (fun k => spec_l4DrawFloat.f k l pos s) (x, pos', s') ∧ At_ l pos' := by
  unfold spec_l4DrawFloat.f
  obtain ⟨v, p, q, e, v0, v1, h⟩ := below_eq hl hp s (a := 9) (by decide)
  simp only [e, Option.bind_some]
  by_cases c0 : v = 0
  · obtain ⟨u, p1, q1, e1, _, _, h1⟩ := below_eq hl h q (a := 2001) (by decide)
    simp only [e1, Option.bind_some]
    exact ⟨_, _, _, ev_pos c0 (Ev.now _), h1⟩
  by_cases c1 : v = 1
  · obtain ⟨u, p1, q1, e1, _, _, h1⟩ := below_eq hl h q (a := 2001) (by decide)
    obtain ⟨t, p2, q2, e2, t0, t1, h2⟩ := below_eq hl h1 q1 (a := 60) (by decide)
    simp only [e1, e2, Option.bind_some]
    obtain ⟨y, hy⟩ := float_up l p2 q2 t.toNat (fop .quo .f32 (fint .f32 (wrap64 (u - 1000))) (cn .f32 1077936128)) (by omega)
    rw [Int.toNat_of_nonneg t0] at hy
    exact ⟨_, _, _, ev_neg c0 (ev_pos c1 hy), h2⟩
  by_cases c2 : v = 2
  · obtain ⟨u, p1, q1, e1, _, _, h1⟩ := below_eq hl h q (a := 2001) (by decide)
    obtain ⟨t, p2, q2, e2, t0, t1, h2⟩ := below_eq hl h1 q1 (a := 80) (by decide)
    simp only [e1, e2, Option.bind_some]
    obtain ⟨y, hy⟩ := float_down l p2 q2 t.toNat (fop .quo .f32 (fint .f32 (wrap64 (u - 1000))) (cn .f32 1077936128)) (by omega)
    rw [Int.toNat_of_nonneg t0] at hy
    exact ⟨_, _, _, ev_neg c0 (ev_neg c1 (ev_pos c2 hy)), h2⟩
  by_cases c3 : v = 3
  · obtain ⟨u, p1, q1, e1, h1⟩ := once_eq hl h q (a := 5) (by decide)
    simp only [e1, Option.bind_some]
    cases u with
    | true =>
      obtain ⟨t, p2, q2, e2, t0, t1, h2⟩ := below_eq hl h1 q1 (a := 4) (by decide)
      obtain ⟨y, hy⟩ := odd_eq t (cn .f32 0)
      simp only [e2, hy, Option.bind_some]
      exact ⟨_, _, _, ev_neg c0 (ev_neg c1 (ev_neg c2 (ev_pos c3 (ev_pos (by trivial) (Ev.now _))))), h2⟩
    | false =>
      obtain ⟨t, p2, q2, e2, t0, t1, h2⟩ := below_eq hl h1 q1 (a := 21) (by decide)
      simp only [e2, Option.bind_some]
      exact ⟨_, _, _, ev_neg c0 (ev_neg c1 (ev_neg c2 (ev_pos c3 (ev_neg (by decide) (Ev.now _))))), h2⟩
  by_cases c4 : v = 4
  · obtain ⟨x, p1, q1, hx, h1⟩ := float_j2 hl h q true
    exact ⟨_, _, _, ev_neg c0 (ev_neg c1 (ev_neg c2 (ev_neg c3 (ev_pos c4 hx)))), h1⟩
  · obtain ⟨x, p1, q1, hx, h1⟩ := float_j2 hl h q (v == 5)
    exact ⟨_, _, _, ev_neg c0 (ev_neg c1 (ev_neg c2 (ev_neg c3 (ev_neg c4 hx)))), h1⟩
theorem sharp_ev {l : List Int} (hl : l.length ≤ 1048576) {pos : Int} (hp : At_ l pos) (s : Int) : ∃ x y pos' s', Ev (fun k => spec_l4DrawSharp.f k l pos s) (x, y, pos', s') ∧ At_ l pos' := by
  obtain ⟨x, p, q, hx, h⟩ := float_ev hl hp s
  obtain ⟨y, p1, q1, hy, h1⟩ := float_ev hl h q
  unfold spec_l4DrawSharp.f
  exact ⟨x, y, p1, q1, Ev.bind hx (Ev.bind hy (Ev.now _)), h1⟩
theorem wider_ev {l : List Int} (hl : l.length ≤ 1048576) : ∃ x y, Ev (fun k => spec_DrawWider.f k l) (x, y) := by
  obtain ⟨s, hs⟩ := new_ev l hl
  obtain ⟨x, y, p, q, h, _⟩ := sharp_ev hl (pos := 0) ⟨by omega, by omega⟩ s
  unfold spec_DrawWider.f
  exact ⟨x, y, Ev.bind hs (Ev.bind h (Ev.now _))⟩
theorem cx_ev {l : List Int} (hl : l.length ≤ 1048576) {pos : Int} (hp : At_ l pos) (s : Int) : ∃ x y pos' s', Ev (fun k => spec_l4DrawCx.f k l pos s) (x, y, pos', s') ∧ At_ l pos' := by
  obtain ⟨x, y, p, q, hx, h⟩ := sharp_ev hl hp s
  obtain ⟨b, p1, q1, e1, h1⟩ := once_eq hl h q (a := 3) (by decide)
  unfold spec_l4DrawCx.f
  cases b with
  | false =>
    refine ⟨fwide x, fwide y, p1, q1, Ev.bind hx ?_, h1⟩
    simp only [spec_Wider.f, e1, Option.bind_some]
    exact ev_neg (by decide) (Ev.now _)
  | true =>
    obtain ⟨u, v, p2, q2, hu, h2⟩ := sharp_ev hl h1 q1
    obtain ⟨r, hr⟩ : ∃ r, spec_CxTimes.f (fwide x) (fwide y) (fwide u) (fwide v) = some r := ⟨_, rfl⟩
    refine ⟨r.1, r.2, p2, q2, Ev.bind hx ?_, h2⟩
    simp only [spec_Wider.f, e1, hr, Option.bind_some]
    refine ev_pos (by trivial) (Ev.bind hu ?_)
    simp only [hr, Option.bind_some]
    exact Ev.now _
theorem two_ev {l : List Int} (hl : l.length ≤ 1048576) : ∃ a b c d, Ev (fun k => spec_DrawCxTimes.f k l) (a, b, c, d) := by
  obtain ⟨s, hs⟩ := new_ev l hl
  obtain ⟨a, b, p, q, h, h0⟩ := cx_ev hl (pos := 0) ⟨by omega, by omega⟩ s
  obtain ⟨c, d, p1, q1, h1, _⟩ := cx_ev hl h0 q
  unfold spec_DrawCxTimes.f spec_l4Two.f
  exact ⟨a, b, c, d, Ev.bind (Ev.bind hs (Ev.bind h (Ev.bind h1 (Ev.now _)))) (Ev.now _)⟩
/-! the roots -/
def RS : List S34 → List (Int × Int) → Prop
  | [], [] => True
  | x :: xs, r :: rs => Z x.f0 r.1 ∧ Z x.f1 r.2 ∧ RS xs rs
  | _, _ => False
theorem rs_len : ∀ {xs : List S34} {rs : List (Int × Int)}, RS xs rs → xs.length = rs.length
  | [], [], _ => rfl
  | x :: xs, r :: rs, h => by simp only [List.length_cons]; rw [rs_len h.2.2]
  | [], r :: rs, h => h.elim
  | x :: xs, [], h => h.elim
theorem rs_get : ∀ {xs : List S34} {rs : List (Int × Int)}, RS xs rs → ∀ i, i < xs.length → Z (xs.getD i z34).f0 (rs.getD i (0, 0)).1 ∧ Z (xs.getD i z34).f1 (rs.getD i (0, 0)).2
  | [], [], _, i, hi => absurd hi (Nat.not_lt_zero _)
  | x :: xs, r :: rs, h, 0, _ => ⟨h.1, h.2.1⟩
  | x :: xs, r :: rs, h, i + 1, hi => by
    have := rs_get h.2.2 i (Nat.lt_of_succ_lt_succ hi)
    simpa using this
  | [], r :: rs, h, _, _ => h.elim
  | x :: xs, [], h, _, _ => h.elim
theorem rs_app : ∀ {xs : List S34} {rs : List (Int × Int)}, RS xs rs → ∀ {x : S34} {r : Int × Int}, Z x.f0 r.1 → Z x.f1 r.2 → RS (xs ++ [x]) (rs ++ [r])
  | [], [], _, _, _, h1, h2 => ⟨h1, h2, trivial⟩
  | x :: xs, r :: rs, h, _, _, h1, h2 => ⟨h.1, h.2.1, rs_app h.2.2 h1 h2⟩
  | [], r :: rs, h, _, _, _, _ => h.elim
  | x :: xs, [], h, _, _, _, _ => h.elim
def Bd (A : Nat) (rs : List (Int × Int)) : Prop := ∀ r ∈ rs, B A r
theorem bd_get {A : Nat} {rs : List (Int × Int)} (h : Bd A rs) (i : Nat) : B A (rs.getD i (0, 0)) := by
  rw [List.getD_eq_getElem?_getD]
  cases e : rs[i]? with
  | none => exact ⟨Nat.zero_le _, Nat.zero_le _⟩
  | some x => exact h x (List.mem_of_getElem? e)
theorem bd_app {A : Nat} {rs : List (Int × Int)} (h : Bd A rs) {r : Int × Int} (hr : B A r) : Bd A (rs ++ [r]) := by
  intro x hx
  rcases List.mem_append.1 hx with h1 | h1
  · exact h x h1
  · rw [List.mem_singleton.1 h1]; exact hr
theorem rd_nat34 (l : List S34) (n : Nat) : rd_T34 l (n : Int) = l.getD n z34 := by
  unfold rd_T34
  rw [Int.toNat_natCast]
/-- the drawn roots -/
theorem roots_loop {l : List Int} (hl : l.length ≤ 1048576) : ∀ (n : Nat) (xs : List S34) (rs : List (Int × Int)) (pos s : Int), xs.length + n ≤ 5 → At_ l pos → RS xs rs → Bd 3 rs →
    ∃ ys qs, Ev (fun k => spec_DrawSmallRoots.l0 k xs (n : Int) l pos s) ys ∧ RS ys qs ∧ Bd 3 qs ∧ ys.length ≤ 5 := by
  intro n
  induction n with
  | zero =>
    intro xs rs pos s hn hp h hb
    refine ⟨xs, rs, ev_succ ?_, h, hb, by omega⟩
    simp only [spec_DrawSmallRoots.l0]
    exact ev_neg (by omega) (Ev.now _)
  | succ n ih =>
    intro xs rs pos s hn hp h hb
    obtain ⟨v, p1, q1, e1, v0, v1, h1⟩ := below_eq hl hp s (a := 7) (by decide)
    obtain ⟨u, p2, q2, e2, u0, u1, h2⟩ := below_eq hl h1 q1 (a := 7) (by decide)
    have w1 : wrap64 (v - 3) = v - 3 := w64 (by omega) (by omega)
    have w2 : wrap64 (u - 3) = u - 3 := w64 (by omega) (by omega)
    obtain ⟨ys, qs, a1, a2, a3, a4⟩ := ih (xs ++ [⟨fint .f64 (v - 3), fint .f64 (u - 3)⟩]) (rs ++ [(v - 3, u - 3)]) p2 q2 (by simp only [List.length_append, List.length_singleton]; omega) h2 (rs_app h (z_fint (by omega)) (z_fint (by omega))) (bd_app hb ⟨by show (v - 3).natAbs ≤ 3; omega, by show (u - 3).natAbs ≤ 3; omega⟩)
    refine ⟨ys, qs, ev_succ ?_, a2, a3, a4⟩
    simp only [spec_DrawSmallRoots.l0, e1, e2, w1, w2, Option.bind_some]
    rw [show wrap64 (((n + 1 : Nat) : Int) - 1) = (n : Int) by rw [w64 (by omega) (by omega)]; omega]
    exact ev_pos (by omega) (ev_pos (by omega) a1)
theorem roots_ev {l : List Int} (hl : l.length ≤ 1048576) : ∃ ys qs, Ev (fun k => spec_DrawSmallRoots.f k l) ys ∧ RS ys qs ∧ Bd 3 qs ∧ ys.length ≤ 5 := by
  obtain ⟨s, hs⟩ := new_ev l hl
  obtain ⟨v, p1, q1, e1, v0, v1, h1⟩ := below_eq hl (pos := 0) ⟨by omega, by omega⟩ s (a := 6) (by decide)
  obtain ⟨ys, qs, a1, a2⟩ := roots_loop hl v.toNat [] [] p1 q1 (by simp only [List.length_nil]; omega) h1 trivial (fun r hr => by cases hr)
  rw [Int.toNat_of_nonneg v0] at a1
  refine ⟨ys, qs, ?_, a2⟩
  unfold spec_DrawSmallRoots.f
  refine Ev.bind hs ?_
  simp only [e1, Option.bind_some]
  exact a1
/-! the polynomial, in whole numbers -/
def addI (z w : Int × Int) : Int × Int := (z.1 + w.1, z.2 + w.2)
def subI (z w : Int × Int) : Int × Int := (z.1 - w.1, z.2 - w.2)
def tailI (z : Int × Int) : Int × Int → List (Int × Int) → List (Int × Int)
  | prev, [] => [subI (0, 0) (mulI prev z)]
  | prev, c :: cs => subI c (mulI prev z) :: tailI z c cs
def hornI (w : Int × Int) : Int × Int → List (Int × Int) → Int × Int
  | acc, [] => acc
  | acc, c :: cs => hornI w (addI (mulI acc w) c) cs
theorem horn_tail (z w : Int × Int) : ∀ (cs : List (Int × Int)) (prev a b : Int × Int), a = addI (mulI b w) prev →
    hornI w (addI (mulI b (subI w z)) prev) (tailI z prev cs) = mulI (hornI w a cs) (subI w z) := by
  intro cs
  induction cs with
  | nil =>
    intro prev a b h
    subst h
    simp only [tailI, hornI, addI, mulI, subI, Prod.mk.injEq]
    constructor <;> grind
  | cons c cs ih =>
    intro prev a b h
    subst h
    simp only [tailI, hornI]
    rw [← ih c (addI (mulI (addI (mulI b w) prev) w) c) (addI (mulI b w) prev) rfl]
    congr 1
    simp only [addI, mulI, subI, Prod.mk.injEq]
    constructor <;> grind
theorem horn_step (z w p0 : Int × Int) (cs : List (Int × Int)) : hornI w (0, 0) (p0 :: tailI z p0 cs) = mulI (hornI w (0, 0) (p0 :: cs)) (subI w z) := by
  have h := horn_tail z w cs p0 (addI (mulI (0, 0) w) p0) (0, 0) rfl
  have e1 : ∀ v : Int × Int, mulI (0, 0) v = (0, 0) := by intro v; simp only [mulI, Int.zero_mul]; rfl
  rw [e1] at h
  simp only [hornI, e1]
  rw [e1] at h
  exact h
theorem drop_get {ps : List (Int × Int)} {i : Nat} (h : i < ps.length) : ps.drop i = ps.getD i (0, 0) :: ps.drop (i + 1) := by
  rw [List.drop_eq_getElem_cons h, List.getD_eq_getElem?_getD, List.getElem?_eq_getElem h]
  rfl
theorem poly_tail {roots : List S34} {n j : Int} {z0 z1 : Fl} {z : Int × Int} (h0 : Z z0 z.1) (h1 : Z z1 z.2) (hz : B 3 z) {xs : List S34} {ps : List (Int × Int)} {A : Nat} (hA : A ≤ 16807) (hx : RS xs ps) (hb : Bd A ps) (hxl : xs.length ≤ 12) :
    ∀ (d i : Nat) (acc : List S34) (accs : List (Int × Int)), i + d = xs.length → 1 ≤ i → RS acc accs → acc.length ≤ i →
    ∃ out, RS out (accs ++ tailI z (ps.getD (i - 1) (0, 0)) (ps.drop i)) ∧ ∀ R, Ev (fun k => impl_FromRoots.l0 k out roots n (wrap64 (j + 1))) R → Ev (fun k => impl_FromRoots.l1 k xs acc (i : Int) roots n j z0 z1) R := by
  have hl := rs_len hx
  have times : ∀ i, i < xs.length → Z (fop .sub .f64 (fop .mul .f64 (xs.getD i z34).f0 z0) (fop .mul .f64 (xs.getD i z34).f1 z1)) (mulI (ps.getD i (0, 0)) z).1 ∧ Z (fop .add .f64 (fop .mul .f64 (xs.getD i z34).f0 z1) (fop .mul .f64 (xs.getD i z34).f1 z0)) (mulI (ps.getD i (0, 0)) z).2 := fun i hi =>
    z_times (rs_get hx i hi).1 (rs_get hx i hi).2 h0 h1 (bd_get hb i) hz (by omega)
  intro d
  induction d with
  | zero =>
    intro i acc accs hi i1 ha hal
    have e0 : wrap64 ((xs.length : Int) - 1) = ((i - 1 : Nat) : Int) := by rw [w64 (by omega) (by omega)]; omega
    have ht := times (i - 1) (by omega)
    have hm := mulI_bd (bd_get hb (i - 1)) hz
    have hs1 : Z (fop .sub .f64 (cn .f64 0) (fop .sub .f64 (fop .mul .f64 (xs.getD (i - 1) z34).f0 z0) (fop .mul .f64 (xs.getD (i - 1) z34).f1 z1))) (subI (0, 0) (mulI (ps.getD (i - 1) (0, 0)) z)).1 := z_sub z_zero ht.1 (by have := hm.1; omega)
    have hs2 : Z (fop .sub .f64 (cn .f64 0) (fop .add .f64 (fop .mul .f64 (xs.getD (i - 1) z34).f0 z1) (fop .mul .f64 (xs.getD (i - 1) z34).f1 z0))) (subI (0, 0) (mulI (ps.getD (i - 1) (0, 0)) z)).2 := z_sub z_zero ht.2 (by have := hm.2; omega)
    refine ⟨acc ++ [⟨fop .sub .f64 (cn .f64 0) (fop .sub .f64 (fop .mul .f64 (xs.getD (i - 1) z34).f0 z0) (fop .mul .f64 (xs.getD (i - 1) z34).f1 z1)), fop .sub .f64 (cn .f64 0) (fop .add .f64 (fop .mul .f64 (xs.getD (i - 1) z34).f0 z1) (fop .mul .f64 (xs.getD (i - 1) z34).f1 z0))⟩], ?_, fun R hR => ev_succ ?_⟩
    · rw [List.drop_eq_nil_of_le (by omega)]
      exact rs_app ha hs1 hs2
    · simp only [impl_FromRoots.l1, e0, rd_nat34, impl_CxTimes.f, impl_CxLess.f, Option.bind_some]
      exact ev_neg (by omega) (ev_pos (by omega) (ev_pos (by omega) (ev_pos (by omega) hR)))
  | succ d ih =>
    intro i acc accs hi i1 ha hal
    have e0 : wrap64 ((i : Int) - 1) = ((i - 1 : Nat) : Int) := by rw [w64 (by omega) (by omega)]; omega
    have ht := times (i - 1) (by omega)
    have hm := mulI_bd (bd_get hb (i - 1)) hz
    have hc := rs_get hx i (by omega)
    have hcb := bd_get hb i
    have hs1 : Z (fop .sub .f64 (xs.getD i z34).f0 (fop .sub .f64 (fop .mul .f64 (xs.getD (i - 1) z34).f0 z0) (fop .mul .f64 (xs.getD (i - 1) z34).f1 z1))) (subI (ps.getD i (0, 0)) (mulI (ps.getD (i - 1) (0, 0)) z)).1 := z_sub hc.1 ht.1 (by have := hm.1; have := hcb.1; omega)
    have hs2 : Z (fop .sub .f64 (xs.getD i z34).f1 (fop .add .f64 (fop .mul .f64 (xs.getD (i - 1) z34).f0 z1) (fop .mul .f64 (xs.getD (i - 1) z34).f1 z0))) (subI (ps.getD i (0, 0)) (mulI (ps.getD (i - 1) (0, 0)) z)).2 := z_sub hc.2 ht.2 (by have := hm.2; have := hcb.2; omega)
    obtain ⟨out, o1, o2⟩ := ih (i + 1) (acc ++ [⟨_, _⟩]) _ (by omega) (by omega) (rs_app ha hs1 hs2) (by simp only [List.length_append, List.length_singleton]; omega)
    refine ⟨out, ?_, fun R hR => ev_succ ?_⟩
    · rw [drop_get (by omega)]
      rw [List.append_assoc] at o1
      exact o1
    · simp only [impl_FromRoots.l1, e0, rd_nat34, impl_CxTimes.f, impl_CxLess.f, Option.bind_some]
      rw [w64_succ (m := xs.length) (n := i) (by omega) (by omega)]
      exact ev_pos (by omega) (ev_pos (by omega) (ev_pos (by omega) (ev_pos (by omega) (ev_pos (by omega) (o2 R hR)))))
theorem tail_len (z : Int × Int) : ∀ (cs : List (Int × Int)) (prev : Int × Int), (tailI z prev cs).length = cs.length + 1 := by
  intro cs
  induction cs with
  | nil => intro prev; rfl
  | cons c cs ih => intro prev; simp only [tailI, List.length_cons, ih]
theorem tail_bd {z : Int × Int} (hz : B 3 z) {A : Nat} : ∀ (cs : List (Int × Int)) (prev : Int × Int), B A prev → Bd A cs → Bd (7 * A) (tailI z prev cs) := by
  intro cs
  induction cs with
  | nil =>
    intro prev hp hc r hr
    rw [List.mem_singleton.1 hr]
    have hm := mulI_bd hp hz
    unfold subI
    exact ⟨by have := hm.1; dsimp only; omega, by have := hm.2; dsimp only; omega⟩
  | cons c cs ih =>
    intro prev hp hc r hr
    have hcc := hc c (List.mem_cons_self ..)
    rcases List.mem_cons.1 hr with h | h
    · rw [h]
      have hm := mulI_bd hp hz
      unfold subI
      exact ⟨by have := hm.1; have := hcc.1; dsimp only; omega, by have := hm.2; have := hcc.2; dsimp only; omega⟩
    · exact ih c hcc (fun x hx => hc x (List.mem_cons_of_mem _ hx)) r h
/-- What the code makes of the roots. -/
theorem from_loop {roots : List S34} {qs : List (Int × Int)} (hq : RS roots qs) (hb : Bd 3 qs) (hn : roots.length ≤ 5) : ∀ (d j : Nat) (xs : List S34) (cs : List (Int × Int)), j + d = roots.length → RS xs ((1, 0) :: cs) → Bd (7 ^ j) ((1, 0) :: cs) → xs.length = j + 1 → (∀ i, i < j → hornI (qs.getD i (0, 0)) (0, 0) ((1, 0) :: cs) = (0, 0)) →
    ∃ out os, Ev (fun k => impl_FromRoots.l0 k xs roots (roots.length : Int) (j : Int)) (out, true) ∧ RS out ((1, 0) :: os) ∧ Bd 16807 ((1, 0) :: os) ∧ out.length = roots.length + 1 ∧ (∀ i, i < roots.length → hornI (qs.getD i (0, 0)) (0, 0) ((1, 0) :: os) = (0, 0)) := by
  intro d
  induction d with
  | zero =>
    intro j xs cs hj hx hbx hxl hh
    refine ⟨xs, cs, ev_succ ?_, hx, ?_, by omega, fun i hi => hh i (by omega)⟩
    · simp only [impl_FromRoots.l0]
      exact ev_neg (by omega) (Ev.now _)
    · intro r hr
      have := hbx r hr
      have hp : 7 ^ j ≤ 7 ^ 5 := Nat.pow_le_pow_right (by decide) (by omega)
      exact ⟨Nat.le_trans this.1 hp, Nat.le_trans this.2 hp⟩
  | succ d ih =>
    intro j xs cs hj hx hbx hxl hh
    have hp : 7 ^ j ≤ 7 ^ 4 := Nat.pow_le_pow_right (by decide) (by omega)
    have hz := rs_get hq j (by omega)
    have hzb := bd_get hb j
    have hf := rs_get hx 0 (by omega)
    obtain ⟨out, o1, o2⟩ := poly_tail (roots := roots) (n := (roots.length : Int)) (j := (j : Int)) hz.1 hz.2 hzb (A := 7 ^ j) (by omega) hx hbx (by omega) j 1 [⟨(xs.getD 0 z34).f0, (xs.getD 0 z34).f1⟩] [((1, 0) : Int × Int)] (by omega) (by omega) ⟨hf.1, hf.2, trivial⟩ (by simp)
    have o1' : RS out ((1, 0) :: tailI (qs.getD j (0, 0)) (1, 0) cs) := o1
    have hol := rs_len o1'
    have hxl2 := rs_len hx
    simp only [List.length_cons, tail_len] at hol hxl2
    obtain ⟨out2, os, b1, b2, b3, b4, b5⟩ := ih (j + 1) out _ (by omega) o1' (by
      intro r hr
      rcases List.mem_cons.1 hr with h | h
      · rw [h]
        have h7 : 1 ≤ 7 ^ (j + 1) := Nat.one_le_pow _ _ (by decide)
        exact ⟨by show (1 : Int).natAbs ≤ _; exact h7, by show (0 : Int).natAbs ≤ _; exact Nat.zero_le _⟩
      · have := tail_bd hzb cs (1, 0) (hbx _ (List.mem_cons_self ..)) (fun x hx => hbx x (List.mem_cons_of_mem _ hx)) r h
        rw [Nat.pow_succ, Nat.mul_comm]
        exact this) (by omega) (by
      intro i hi
      rw [horn_step]
      by_cases c : i = j
      · subst c
        rw [show subI (qs.getD i (0, 0)) (qs.getD i (0, 0)) = (0, 0) by unfold subI; rw [Int.sub_self, Int.sub_self]]
        simp only [mulI, Int.mul_zero]; rfl
      · rw [hh i (by omega)]
        simp only [mulI, Int.zero_mul]; rfl)
    refine ⟨out2, os, ev_succ ?_, b2, b3, b4, b5⟩
    simp only [impl_FromRoots.l0, rd_nat34]
    rw [show rd_T34 xs 0 = xs.getD 0 z34 from rd_nat34 xs 0]
    refine ev_pos (by omega) (ev_pos (by omega) (ev_pos (by omega) (ev_pos (by omega) (o2 _ ?_))))
    rw [w64_succ (m := roots.length) (n := j) (by omega) (by omega)]
    exact b1
theorem addI_bd {z w : Int × Int} {A C : Nat} (h : B A z) (h' : B C w) : B (A + C) (addI z w) := by
  unfold addI
  exact ⟨by have := h.1; have := h'.1; dsimp only; omega, by have := h.2; have := h'.2; dsimp only; omega⟩
theorem poly_loop {xs : List S34} {ps : List (Int × Int)} (hx : RS xs ps) (hb : Bd 16807 ps) (hl : xs.length ≤ 6) {w0 w1 : Fl} {w : Int × Int} (h0 : Z w0 w.1) (h1 : Z w1 w.2) (hw : B 3 w) : ∀ (d i : Nat) (a0 a1 : Fl) (a : Int × Int), i + d = xs.length → Z a0 a.1 → Z a1 a.2 → B (16807 * 7 ^ i) a →
    ∃ r0 r1, Ev (fun k => impl_Poly.l0 k xs (xs.length : Int) (i : Int) w0 w1 a0 a1) (r0, r1, true) ∧ Z r0 (hornI w a (ps.drop i)).1 ∧ Z r1 (hornI w a (ps.drop i)).2 := by
  have hpl := rs_len hx
  intro d
  induction d with
  | zero =>
    intro i a0 a1 a hi ha0 ha1 ha
    refine ⟨a0, a1, ev_succ ?_, ?_⟩
    · simp only [impl_Poly.l0]
      exact ev_neg (by omega) (Ev.now _)
    · rw [List.drop_eq_nil_of_le (by omega)]
      exact ⟨ha0, ha1⟩
  | succ d ih =>
    intro i a0 a1 a hi ha0 ha1 ha
    have hp : 7 ^ i ≤ 7 ^ 5 := Nat.pow_le_pow_right (by decide) (by omega)
    have h7 : 1 ≤ 7 ^ i := Nat.one_le_pow _ _ (by decide)
    have ht := z_times ha0 ha1 h0 h1 ha hw (by omega)
    have htb := mulI_bd ha hw
    have hc := rs_get hx i (by omega)
    have hcb := bd_get hb i
    have hs := addI_bd htb hcb
    have hs1 : Z (fop .add .f64 (fop .sub .f64 (fop .mul .f64 a0 w0) (fop .mul .f64 a1 w1)) (xs.getD i z34).f0) (addI (mulI a w) (ps.getD i (0, 0))).1 := z_add ht.1 hc.1 (by have := htb.1; have := hcb.1; omega)
    have hs2 : Z (fop .add .f64 (fop .add .f64 (fop .mul .f64 a0 w1) (fop .mul .f64 a1 w0)) (xs.getD i z34).f1) (addI (mulI a w) (ps.getD i (0, 0))).2 := z_add ht.2 hc.2 (by have := htb.2; have := hcb.2; omega)
    obtain ⟨r0, r1, q1, q2, q3⟩ := ih (i + 1) _ _ _ (by omega) hs1 hs2 (by
      rw [Nat.pow_succ]
      exact ⟨by have := hs.1; omega, by have := hs.2; omega⟩)
    refine ⟨r0, r1, ev_succ ?_, ?_⟩
    · simp only [impl_Poly.l0, rd_nat34, impl_CxTimes.f, impl_CxAdd.f, Option.bind_some]
      rw [w64_succ (m := xs.length) (n := i) (by omega) (by omega)]
      exact ev_pos (by omega) (ev_pos (by omega) (ev_pos (by omega) q1))
    · rw [drop_get (by omega)]
      exact ⟨q2, q3⟩
theorem poly_ev {xs : List S34} {ps : List (Int × Int)} (hx : RS xs ps) (hb : Bd 16807 ps) (hl : xs.length ≤ 6) {w0 w1 : Fl} {w : Int × Int} (h0 : Z w0 w.1) (h1 : Z w1 w.2) (hw : B 3 w) :
    ∃ r0 r1, Ev (fun k => impl_Poly.f k xs w0 w1) (r0, r1, true) ∧ Z r0 (hornI w (0, 0) ps).1 ∧ Z r1 (hornI w (0, 0) ps).2 := by
  obtain ⟨r0, r1, a, b⟩ := poly_loop hx hb hl h0 h1 hw xs.length 0 (cn .f64 0) (cn .f64 0) (0, 0) (by omega) z_zero z_zero ⟨by show (0 : Int).natAbs ≤ _; exact Nat.zero_le _, by show (0 : Int).natAbs ≤ _; exact Nat.zero_le _⟩
  refine ⟨r0, r1, ?_, b⟩
  unfold impl_Poly.f
  exact ev_neg (by omega) a
theorem from_ev {roots : List S34} {qs : List (Int × Int)} (hq : RS roots qs) (hb : Bd 3 qs) (hn : roots.length ≤ 5) :
    ∃ out os, Ev (fun k => impl_FromRoots.f k roots) (out, true) ∧ RS out ((1, 0) :: os) ∧ Bd 16807 ((1, 0) :: os) ∧ out.length = roots.length + 1 ∧ (∀ i, i < roots.length → hornI (qs.getD i (0, 0)) (0, 0) ((1, 0) :: os) = (0, 0)) := by
  obtain ⟨out, os, a, b⟩ := from_loop hq hb hn roots.length 0 [⟨cn .f64 4607182418800017408, cn .f64 0⟩] [] (by omega) ⟨z_one, z_zero, trivial⟩ (by
    intro r hr
    rw [List.mem_singleton.1 hr]
    exact ⟨by decide, by decide⟩) rfl (fun i hi => absurd hi (Nat.not_lt_zero _))
  refine ⟨out, os, ?_, b⟩
  unfold impl_FromRoots.f
  exact ev_neg (by omega) a
/-- Roots to the left of the axis. -/
def left : List (Int × Int) → Int
  | [] => 0
  | r :: rs => (if r.1 < 0 then 1 else 0) + left rs
theorem left_bd : ∀ (rs : List (Int × Int)), 0 ≤ left rs ∧ left rs ≤ rs.length
  | [] => ⟨Int.le_refl _, Int.le_refl _⟩
  | r :: rs => by
    have := left_bd rs
    simp only [left, List.length_cons]
    split <;> omega
theorem left_drop {ps : List (Int × Int)} {i : Nat} (h : i < ps.length) : left (ps.drop i) = (if (ps.getD i (0, 0)).1 < 0 then 1 else 0) + left (ps.drop (i + 1)) := by
  rw [drop_get h]
  rfl
theorem damped_loop {xs : List S34} {ps : List (Int × Int)} (hx : RS xs ps) (hl : xs.length ≤ 5) : ∀ (d i : Nat) (m : Int), i + d = xs.length → 0 ≤ m → m ≤ i →
    Ev (fun k => impl_Damped.l0 k m xs (xs.length : Int) (i : Int)) (m + left (ps.drop i), true) := by
  have hpl := rs_len hx
  intro d
  induction d with
  | zero =>
    intro i m hi hm hm'
    refine ev_succ ?_
    simp only [impl_Damped.l0]
    rw [List.drop_eq_nil_of_le (by omega), show m + left [] = m by simp [left]]
    exact ev_neg (by omega) (Ev.now _)
  | succ d ih =>
    intro i m hi hm hm'
    have hc := rs_get hx i (by omega)
    have n0 : fcmp .neq .f64 (xs.getD i z34).f0 (xs.getD i z34).f0 = false := by rw [z_neq hc.1 hc.1]; simp
    have n1 : fcmp .neq .f64 (xs.getD i z34).f1 (xs.getD i z34).f1 = false := by rw [z_neq hc.2 hc.2]; simp
    have ls : fcmp .lss .f64 (xs.getD i z34).f0 (cn .f64 0) = decide ((ps.getD i (0, 0)).1 < 0) := z_lss hc.1 z_zero
    refine ev_succ ?_
    simp only [impl_Damped.l0, rd_nat34, math_IsNaN.f, n0, n1, Option.bind_some]
    refine ev_pos (by omega) (ev_pos (by omega) (ev_pos (by omega) (ev_neg (by decide) (ev_succ ?_))))
    simp only [impl_Damped.j1, ls]
    rw [w64_succ (m := xs.length) (n := i) (by omega) (by omega), left_drop (by omega), w64 (x := m + 1) (by omega) (by omega)]
    by_cases c : (ps.getD i (0, 0)).1 < 0
    · rw [if_pos c, ← Int.add_assoc]
      exact ev_neg (by decide) (ev_pos (decide_eq_true c) (ih (i + 1) (m + 1) (by omega) (by omega) (by omega)))
    · rw [if_neg c, Int.zero_add]
      exact ev_neg (by decide) (ev_neg (by simpa using c) (ih (i + 1) m (by omega) (by omega) (by omega)))
theorem damped_ev {xs : List S34} {ps : List (Int × Int)} (hx : RS xs ps) (hl : xs.length ≤ 5) : Ev (fun k => impl_Damped.f k xs) (left ps, true) := by
  have h := damped_loop hx hl xs.length 0 0 (by omega) (by omega) (by omega)
  rw [List.drop_zero, Int.zero_add] at h
  unfold impl_Damped.f
  exact ev_neg (by omega) h
theorem count_loop {xs : List S34} {ps : List (Int × Int)} (hx : RS xs ps) (hl : xs.length ≤ 5) {out : List S34} {os : List (Int × Int)} (ho : RS out ((1, 0) :: os)) : ∀ (d i : Nat) (m : Int), i + d = xs.length → 0 ≤ m → m ≤ i → m + left (ps.drop i) = left ps →
    Ev (fun k => laws_FnSizes.l1 k xs out (left ps) true m (i : Int)) true := by
  have hpl := rs_len hx
  have hol := rs_len ho
  simp only [List.length_cons] at hol
  intro d
  induction d with
  | zero =>
    intro i m hi hm hm' he
    have hf := rs_get ho 0 (by omega)
    refine ev_succ ?_
    simp only [laws_FnSizes.l1]
    rw [List.drop_eq_nil_of_le (by omega), show m + left [] = m by simp [left]] at he
    rw [show rd_T34 out 0 = out.getD 0 z34 from rd_nat34 out 0, z_eql hf.1 z_one, z_eql hf.2 z_zero]
    exact ev_neg (by omega) (ev_pos (by trivial) (ev_pos he.symm (ev_pos (by omega) (ev_pos (by simp) (by simpa using Ev.now true)))))
  | succ d ih =>
    intro i m hi hm hm' he
    have hc := rs_get hx i (by omega)
    have ls : fcmp .lss .f64 (xs.getD i z34).f0 (cn .f64 0) = decide ((ps.getD i (0, 0)).1 < 0) := z_lss hc.1 z_zero
    refine ev_succ ?_
    simp only [laws_FnSizes.l1, rd_nat34, ls]
    rw [w64_succ (m := xs.length) (n := i) (by omega) (by omega), w64 (x := m + 1) (by omega) (by omega)]
    rw [left_drop (by omega)] at he
    by_cases c : (ps.getD i (0, 0)).1 < 0
    · rw [if_pos c] at he
      exact ev_pos (by omega) (ev_pos (by omega) (ev_pos (decide_eq_true c) (ih (i + 1) (m + 1) (by omega) (by omega) (by omega) (by omega))))
    · rw [if_neg c] at he
      exact ev_pos (by omega) (ev_pos (by omega) (ev_neg (by simpa using c) (ih (i + 1) m (by omega) (by omega) (by omega) (by omega))))
theorem check_loop {xs : List S34} {ps : List (Int × Int)} (hx : RS xs ps) (hb : Bd 3 ps) (hl : xs.length ≤ 5) {out : List S34} {os : List (Int × Int)} (ho : RS out ((1, 0) :: os)) (hob : Bd 16807 ((1, 0) :: os)) (hol : out.length = xs.length + 1) (hh : ∀ i, i < xs.length → hornI (ps.getD i (0, 0)) (0, 0) ((1, 0) :: os) = (0, 0)) : ∀ (d i : Nat), i + d = xs.length →
    Ev (fun k => laws_FnSizes.l0 k xs out (i : Int)) true := by
  intro d
  induction d with
  | zero =>
    intro i hi
    refine ev_succ ?_
    simp only [laws_FnSizes.l0]
    refine ev_neg (by omega) (Ev.bind (damped_ev hx hl) ?_)
    exact count_loop hx hl ho xs.length 0 0 (by omega) (by omega) (by omega) (by rw [List.drop_zero, Int.zero_add])
  | succ d ih =>
    intro i hi
    have hc := rs_get hx i (by omega)
    obtain ⟨r0, r1, e, z0, z1⟩ := poly_ev ho hob (by omega) hc.1 hc.2 (bd_get hb i)
    rw [hh i (by omega)] at z0 z1
    refine ev_succ ?_
    simp only [laws_FnSizes.l0, rd_nat34]
    refine ev_pos (by omega) (ev_pos (by omega) (Ev.bind e ?_))
    have n0 : fcmp .neq .f64 r0 (cn .f64 0) = false := by rw [z_neq z0 z_zero]; simp
    have n1 : fcmp .neq .f64 r1 (cn .f64 0) = false := by rw [z_neq z1 z_zero]; simp
    simp only [n0, n1]
    refine ev_pos (by trivial) (ev_neg (by decide) (ev_succ ?_))
    simp only [laws_FnSizes.j4]
    rw [w64_succ (m := xs.length) (n := i) (by omega) (by omega)]
    exact ev_neg (by decide) (ih (i + 1) (by omega))
theorem j1_ev {l : List Int} (hl : l.length ≤ 1048576) : Ev (fun k => laws_FnSizes.j1 k l false) true := by
  obtain ⟨xs, ps, hx, h1, h2, h3⟩ := roots_ev hl
  obtain ⟨out, os, a1, a2, a3, a4, a5⟩ := from_ev h1 h2 h3
  refine ev_succ ?_
  simp only [laws_FnSizes.j1]
  refine ev_neg (by decide) (Ev.bind hx (Ev.bind a1 (ev_pos (by trivial) ?_)))
  rw [w64 (x := (xs.length : Int) + 1) (by omega) (by omega), show ((out.length : Int) != (xs.length : Int) + 1) = false by simp; omega]
  refine ev_succ ?_
  simp only [laws_FnSizes.j2]
  exact ev_neg (by decide) (check_loop h1 h2 h3 a2 a3 a4 a5 xs.length 0 (by omega))
theorem j0_ev {l : List Int} (hl : l.length ≤ 1048576) : Ev (fun k => laws_FnSizes.j0 k l false) true := by
  obtain ⟨a, b, c, d, h⟩ := two_ev hl
  refine ev_succ ?_
  simp only [laws_FnSizes.j0]
  refine ev_neg (by decide) (Ev.bind h ?_)
  dsimp only
  rw [times_comm c d a b, plus_comm c d a b]
  obtain ⟨r, hr⟩ : ∃ r, impl_CxTimes.f a b c d = some r := ⟨_, rfl⟩
  obtain ⟨t, ht⟩ : ∃ r, impl_CxAdd.f a b c d = some r := ⟨_, rfl⟩
  simp only [hr, ht, same_self, Option.bind_some, Bool.not_true]
  exact ev_pos (by trivial) (ev_pos (by trivial) (ev_pos (by trivial) (j1_ev hl)))
theorem FnSizes : laws_FnSizes.PureR := by
  intro l0 ⟨hm, hwf⟩
  refine Ev.rounds ?_
  unfold laws_FnSizes.f
  by_cases hb : l0.length ≤ 1048576
  · rw [big_ev hb]
    obtain ⟨x, y, hw⟩ := wider_ev hb
    obtain ⟨x', ex, cx⟩ := narrow_wide x
    obtain ⟨y', ey, cy⟩ := narrow_wide y
    simp only [Option.bind_some]
    refine ev_neg (by decide) (Ev.bind hw ?_)
    simp only [impl_Wider.f, impl_Sharper.f, ex, ey, Option.bind_some]
    have last : Ev (fun n => if fcmp .neq .f32 y' y = true then laws_FnSizes.j0 n l0 (fcmp .eql .f32 y y) else laws_FnSizes.j0 n l0 false) true := by
      by_cases c : fcmp .neq .f32 y' y = true
      · rw [cy c]
        exact ev_pos c (j0_ev hb)
      · exact ev_neg c (j0_ev hb)
    by_cases c : fcmp .neq .f32 x' x = true
    · refine ev_pos c (ev_neg (by rw [cx c]; decide) last)
    · exact ev_neg c last
  · rw [big_big hb]
    simp only [Option.bind_some]
    exact ev_pos (by trivial) (Ev.now _)

end Go.Proofs.Ytfopdbdamkfglaa.Pure
