/- Proved here: whole complex numbers times a unit and divided by it again are what they were, a quarter turn comes round in four steps, and a determinant with a row twice is nought; no condition. -/
import Derived.Test.YtfopdbdamkfglaaPureDefFnQuotient
namespace Go.Proofs.Ytfopdbdamkfglaa.Pure
open Go.RowKit Go.Proofs.Ytfopdbdamkfglaa.QFnQuotient Go.Proofs.YtfopdbdamkfglaaW.PrintWords Go.Proofs.YtfopdbdamkfglaaW.PrintLast Go.Proofs.YtfopdbdamkfglaaW.PrintMore
set_option linter.unusedVariables false
set_option linter.unusedSimpArgs false

theorem ev_pos {c : Prop} [Decidable c] {α : Type} {A B : Nat → Option α} {r : α} (h : c) (k : Ev A r) : Ev (fun n => if c then A n else B n) r := by
  simpa only [if_pos h] using k
theorem ev_neg {c : Prop} [Decidable c] {α : Type} {A B : Nat → Option α} {r : α} (h : ¬ c) (k : Ev B r) : Ev (fun n => if c then A n else B n) r := by
  simpa only [if_neg h] using k
theorem ev_succ {α : Type} {g : Nat → Option α} {r : α} (h : Ev (fun k => g (k + 1)) r) : Ev g r := Ev.step (fun _ => rfl) h
theorem ex_succ {α : Type} {g : Nat → Option α} (h : ∃ r, Ev (fun k => g (k + 1)) r) : ∃ r, Ev g r := by
  obtain ⟨r, h⟩ := h
  exact ⟨r, ev_succ h⟩
theorem ev_one {α : Type} {g : Nat → Option α} {r q : α} (h : Ev g r) (h' : Ev g q) : r = q := by
  obtain ⟨K, hK⟩ := h
  obtain ⟨L, hL⟩ := h'
  have a := hK (max K L) (Nat.le_max_left _ _)
  have b := hL (max K L) (Nat.le_max_right _ _)
  exact Option.some.inj (a.symm.trans b)
theorem ev_bool {α : Type} {A B : Nat → Option α} {r : α} (b : Bool) (h1 : b = true → Ev A r) (h2 : b = false → Ev B r) : Ev (fun n => if b = true then A n else B n) r := by
  cases b with
  | true => exact ev_pos (by trivial) (h1 rfl)
  | false => exact ev_neg (by decide) (h2 rfl)
theorem bool_eq_of_iff {a b : Bool} {p : Prop} (h : a = true ↔ p) (h' : b = true ↔ p) : a = b := by
  rw [Bool.eq_iff_iff]
  exact h.trans h'.symm
theorem w64 {x : Int} (h0 : -9223372036854775808 ≤ x) (h1 : x ≤ 9223372036854775807) : wrap64 x = x := by
  unfold wrap64
  omega
theorem w64_succ {n m : Nat} (h : n < m) (hm : m ≤ 9223372036854775807) : wrap64 ((n : Int) + 1) = ((n + 1 : Nat) : Int) := by
  unfold wrap64
  omega
theorem rd_nat (l : List Int) (n : Nat) : rd l (n : Int) = l.getD n 0 := by
  unfold rd
  rw [Int.toNat_natCast]
theorem take_set_succ {α : Type} (d : α) {x0 x3 : List α} {n : Nat} (h : n < x0.length) (hl : x3.length = x0.length) (ht : x3.take n = x0.take n) : (x3.set n (x0.getD n d)).take (n + 1) = x0.take (n + 1) := by
  apply List.ext_getElem?
  intro i
  simp only [List.getElem?_take, List.getElem?_set]
  by_cases hi : i < n + 1
  · rw [if_pos hi, if_pos hi]
    by_cases he : n = i
    · subst he
      rw [if_pos rfl, if_pos (by omega), List.getD_eq_getElem?_getD, List.getElem?_eq_getElem h]
      rfl
    · rw [if_neg he]
      have := congrArg (fun l => l[i]?) ht
      simpa only [List.getElem?_take, if_pos (show i < n by omega)] using this
  · rw [if_neg hi, if_neg hi]
theorem u8_bounds {l : List Int} (h : ∀ x ∈ l, 0 ≤ x ∧ x ≤ 255) (n : Nat) : 0 ≤ l.getD n 0 ∧ l.getD n 0 ≤ 255 := by
  rw [List.getD_eq_getElem?_getD]
  cases e : l[n]? with
  | none => simp
  | some x =>
    exact h x (List.mem_of_getElem? e)
theorem getD_map {α β : Type} (c : α → β) (l : List α) (n : Nat) (d : α) : (l.map c).getD n (c d) = c (l.getD n d) := by
  simp only [List.getD_eq_getElem?_getD, List.getElem?_map]
  cases l[n]? <;> rfl
/-- It ends, with true just where p holds. -/
def EvB (g : Nat → Option Bool) (p : Prop) : Prop := ∃ b, Ev g b ∧ (b = true ↔ p)
theorem EvB.iff {g : Nat → Option Bool} {p q : Prop} (h : EvB g p) (h' : p ↔ q) : EvB g q := by
  obtain ⟨b, hb, ib⟩ := h
  exact ⟨b, hb, ib.trans h'⟩
theorem EvB.dec {c : Prop} [Decidable c] : EvB (fun _ => some (decide c)) c := ⟨decide c, Ev.now _, decide_eq_true_iff⟩
theorem EvB.ite {c : Prop} [Decidable c] {A : Nat → Option Bool} {p : Prop} (h : EvB A p) : EvB (fun n => if c then A n else some false) (c ∧ p) := by
  obtain ⟨b, hb, ib⟩ := h
  by_cases hc : c
  · exact ⟨b, ev_pos hc hb, ⟨fun h => ⟨hc, ib.1 h⟩, fun h => ib.2 h.2⟩⟩
  · exact ⟨false, ev_neg hc (Ev.now _), ⟨fun h => (Bool.false_ne_true h).elim, fun h => absurd h.1 hc⟩⟩
theorem EvB.ite_not {c : Prop} [Decidable c] {A : Nat → Option Bool} {p : Prop} (h : EvB A p) : EvB (fun n => if c then some false else A n) (¬ c ∧ p) := by
  obtain ⟨b, hb, ib⟩ := h
  by_cases hc : c
  · exact ⟨false, ev_pos hc (Ev.now _), ⟨fun h => (Bool.false_ne_true h).elim, fun h => absurd hc h.1⟩⟩
  · exact ⟨b, ev_neg hc hb, ⟨fun h => ⟨hc, ib.1 h⟩, fun h => ib.2 h.2⟩⟩
theorem EvB.bind {g A : Nat → Option Bool} {p q : Prop} (h : EvB g p) (h' : EvB A q) : EvB (fun n => (g n).bind fun t => if t = true then A n else some false) (p ∧ q) := by
  obtain ⟨b, hb, ib⟩ := h
  obtain ⟨c, hc, ic⟩ := h'
  cases b with
  | true => exact ⟨c, Ev.bind hb (ev_pos rfl hc), ⟨fun h => ⟨ib.1 rfl, ic.1 h⟩, fun h => ic.2 h.2⟩⟩
  | false => exact ⟨false, Ev.bind hb (ev_neg (by decide) (Ev.now _)), ⟨fun h => (Bool.false_ne_true h).elim, fun h => absurd (ib.2 h.1) (by decide)⟩⟩
theorem EvB.last {g : Nat → Option Bool} {p : Prop} (h : EvB g p) : EvB (fun n => (g n).bind fun t => some t) p := by
  obtain ⟨b, hb, ib⟩ := h
  exact ⟨b, Ev.bind hb (Ev.now _), ib⟩
theorem EvB.same {g g' : Nat → Option Bool} {p : Prop} (h : EvB g p) (h' : EvB g' p) : ∃ b, Ev g b ∧ Ev g' b ∧ (b = true ↔ p) := by
  obtain ⟨b, hb, ib⟩ := h
  obtain ⟨c, hc, ic⟩ := h'
  obtain rfl : c = b := bool_eq_of_iff ic ib
  exact ⟨c, hb, hc, ib⟩
theorem EvB.bindE {g A B : Nat → Option Bool} {p q : Prop} (hB : Ev B false) (h : EvB g p) (h' : EvB A q) : EvB (fun n => (g n).bind fun t => if t = true then A n else B n) (p ∧ q) := by
  obtain ⟨b, hb, ib⟩ := h
  obtain ⟨c, hc, ic⟩ := h'
  cases b with
  | true => exact ⟨c, Ev.bind hb (ev_pos rfl hc), ⟨fun h => ⟨ib.1 rfl, ic.1 h⟩, fun h => ic.2 h.2⟩⟩
  | false => exact ⟨false, Ev.bind hb (ev_neg (by decide) hB), ⟨fun h => (Bool.false_ne_true h).elim, fun h => absurd (ib.2 h.1) (by decide)⟩⟩
theorem EvB.iteE {c : Prop} [Decidable c] {A B : Nat → Option Bool} {p : Prop} (hB : Ev B false) (h : EvB A p) : EvB (fun n => if c then A n else B n) (c ∧ p) := by
  obtain ⟨b, hb, ib⟩ := h
  by_cases hc : c
  · exact ⟨b, ev_pos hc hb, ⟨fun h => ⟨hc, ib.1 h⟩, fun h => ib.2 h.2⟩⟩
  · exact ⟨false, ev_neg hc hB, ⟨fun h => (Bool.false_ne_true h).elim, fun h => absurd h.1 hc⟩⟩
theorem EvB.bindN {g : Nat → Option Bool} {J : Nat → Bool → Option Bool} {p q : Prop} (hB : Ev (fun n => J n true) false) (h : EvB g p) (h' : EvB (fun n => J n false) q) : EvB (fun n => (g n).bind fun t => J n (!t)) (p ∧ q) := by
  obtain ⟨b, hb, ib⟩ := h
  obtain ⟨c, hc, ic⟩ := h'
  cases b with
  | true => exact ⟨c, Ev.bind hb hc, ⟨fun h => ⟨ib.1 rfl, ic.1 h⟩, fun h => ic.2 h.2⟩⟩
  | false => exact ⟨false, Ev.bind hb hB, ⟨fun h => (Bool.false_ne_true h).elim, fun h => absurd (ib.2 h.1) (by decide)⟩⟩
theorem EvB.succ {g : Nat → Option Bool} {p : Prop} (h : EvB (fun k => g (k + 1)) p) : EvB g p := by
  obtain ⟨b, hb, ib⟩ := h
  exact ⟨b, ev_succ hb, ib⟩
theorem EvB.true_ {p : Prop} (h : p) : EvB (fun _ => some true) p := ⟨true, Ev.now _, ⟨fun _ => h, fun _ => rfl⟩⟩
theorem EvB.false_ {p : Prop} (h : ¬ p) : EvB (fun _ => some false) p := ⟨false, Ev.now _, ⟨fun e => (Bool.false_ne_true e).elim, fun e => absurd e h⟩⟩
theorem EvB.pos {c : Prop} [Decidable c] {A B : Nat → Option Bool} {p : Prop} (hc : c) (h : EvB A p) : EvB (fun n => if c then A n else B n) p := by
  simpa only [if_pos hc] using h
theorem EvB.neg {c : Prop} [Decidable c] {A B : Nat → Option Bool} {p : Prop} (hc : ¬ c) (h : EvB B p) : EvB (fun n => if c then A n else B n) p := by
  simpa only [if_neg hc] using h

theorem at_ev {l : List Int} (h : ∀ x ∈ l, 0 ≤ x ∧ x ≤ 255) (hl : l.length ≤ 1048576) (i : Int) (h0 : 0 ≤ i) (h1 : i ≤ 1000000) : ∃ v, laws_at.f l i = some v ∧ 0 ≤ v ∧ v ≤ 255 := by
  unfold laws_at.f
  by_cases hi : i < (l.length : Int)
  · rw [if_pos hi, if_pos h0]
    have := u8_bounds h i.toNat
    refine ⟨_, rfl, ?_⟩
    unfold rd
    rw [w64 (by omega) (by omega)]
    exact this
  · rw [if_neg hi]
    refine ⟨_, rfl, ?_⟩
    rw [w64 (x := i * 7) (by omega) (by omega), w64 (by omega) (by omega), Int.tmod_eq_emod_of_nonneg (by omega)]
    omega

theorem big_ev {l : List Int} (h : l.length ≤ 1048576) : laws_big.f l = some false := by
  unfold laws_big.f
  rw [decide_eq_false (by omega)]
theorem big_big {l : List Int} (h : ¬ l.length ≤ 1048576) : laws_big.f l = some true := by
  unfold laws_big.f
  rw [decide_eq_true (by omega)]

def fin (x : Fl) : Bool := fcmp .eql .f64 (fop .sub .f64 x x) (cn .f64 0)
theorem rdf_nat (l : List Fl) (n : Nat) : rdf .f64 l (n : Int) = l.getD n (cn .f64 0) := by
  unfold rdf
  rw [Int.toNat_natCast]
theorem drop_all (l : List Fl) (n : Nat) (h : n < l.length) : (l.drop n).all fin = (fin (l.getD n (cn .f64 0)) && (l.drop (n + 1)).all fin) := by
  rw [List.drop_eq_getElem_cons h, List.all_cons, List.getD_eq_getElem?_getD, List.getElem?_eq_getElem h]
  rfl
theorem index_loop (l : List Fl) (hl : l.length ≤ 9223372036854775807) : ∀ (d n : Nat), n + d = l.length → ∃ r : Int, Ev (fun k => slices_IndexFunc_float64_float64.l0 k l (l.length : Int) (n : Int)) r ∧ decide (r ≥ 0) = !(l.drop n).all fin := by
  intro d
  induction d with
  | zero =>
    intro n hn
    refine ⟨-1, ev_succ ?_, ?_⟩
    · simp only [slices_IndexFunc_float64_float64.l0]
      exact ev_neg (by omega) (Ev.now _)
    · rw [List.drop_of_length_le (by omega)]
      rfl
  | succ d ih =>
    intro n hn
    obtain ⟨r, hr, hb⟩ := ih (n + 1) (by omega)
    cases h : fin (l.getD n (cn .f64 0)) with
    | false =>
      have h' : fcmp .neq .f64 (fop .sub .f64 (l.getD n (cn .f64 0)) (l.getD n (cn .f64 0))) (cn .f64 0) = true := by
        show (!fin (l.getD n (cn .f64 0))) = true
        rw [h]; rfl
      refine ⟨(n : Int), ev_succ ?_, ?_⟩
      · simp only [slices_IndexFunc_float64_float64.l0, impl_finite_1.f, Option.bind_some, rdf_nat]
        exact ev_pos (by omega) (ev_pos (by omega) (ev_pos (by omega) (ev_pos h' (Ev.now _))))
      · rw [drop_all l n (by omega), h]
        simp
    | true =>
      have h' : fcmp .neq .f64 (fop .sub .f64 (l.getD n (cn .f64 0)) (l.getD n (cn .f64 0))) (cn .f64 0) = false := by
        show (!fin (l.getD n (cn .f64 0))) = false
        rw [h]; rfl
      refine ⟨r, ev_succ ?_, ?_⟩
      · simp only [slices_IndexFunc_float64_float64.l0, impl_finite_1.f, Option.bind_some, rdf_nat]
        rw [w64_succ (m := l.length) (by omega) hl]
        exact ev_pos (by omega) (ev_pos (by omega) (ev_pos (by omega) (ev_neg (by rw [h']; decide) hr)))
      · rw [drop_all l n (by omega), h, hb]
        rfl
theorem finite_ev (l : List Fl) (hl : l.length ≤ 9223372036854775807) : Ev (fun k => impl_finite.f k l) (l.all fin) := by
  obtain ⟨r, hr, hb⟩ := index_loop l hl l.length 0 (by omega)
  unfold impl_finite.f slices_ContainsFunc_float64_float64.f slices_IndexFunc_float64_float64.f
  have e : l.all fin = !decide (r ≥ 0) := by rw [hb, Bool.not_not, List.drop_zero]
  rw [e]
  exact Ev.bind (Ev.bind hr (Ev.now _)) (Ev.now _)

/-! whole numbers in floating point: what is exact -/
open Ieee (Datum) in
/-- What a datum stands for is n * 2 ^ e. -/
def RepE (D : Datum) (n e : Int) : Prop := ∃ s m p, ∃ a b : Nat, D = .number s m p ∧ (a : Int) + e = b + p ∧ Ieee.signed s m a = n * 2 ^ b
/-- What a datum stands for is the whole number n. -/
abbrev Rep (D : Ieee.Datum) (n : Int) : Prop := RepE D n 0
def sg (s : Bool) : Int := if s then -1 else 1
theorem signed_eq (s : Bool) (m a : Nat) : Ieee.signed s m a = sg s * m * 2 ^ a := by
  unfold Ieee.signed sg
  rw [Nat.shiftLeft_eq]
  split
  · rw [Int.natCast_mul, Int.natCast_pow]; show -((m : Int) * 2 ^ a) = _; rw [Int.neg_mul, Int.one_mul, Int.neg_mul]
  · rw [Int.natCast_mul, Int.natCast_pow, Int.one_mul]; rfl
theorem p2 (b : Nat) : (0 : Int) < 2 ^ b := Int.pow_pos (by decide)
theorem cancel2 {x y : Int} (b : Nat) (h : x * 2 ^ b = y * 2 ^ b) : x = y := Int.eq_of_mul_eq_mul_right (Int.ne_of_gt (p2 b)) h
theorem sg_sq (s : Bool) : sg s * sg s = 1 := by cases s <;> rfl
theorem sg_xor (s t : Bool) : sg (s ^^ t) = sg s * sg t := by cases s <;> cases t <;> rfl
/-- All ways to write the place are alike. -/
theorem rep_all {s : Bool} {m : Nat} {p n e : Int} (h : RepE (.number s m p) n e) (a b : Nat) (hab : (a : Int) + e = b + p) : sg s * m * 2 ^ a = n * 2 ^ b := by
  obtain ⟨s', m', p', a', b', hD, hp, hv⟩ := h
  cases hD
  rw [signed_eq] at hv
  apply cancel2 b'
  have e : a + b' = a' + b := by omega
  rw [Int.mul_assoc, ← Int.pow_add, e, Int.pow_add, ← Int.mul_assoc, hv, Int.mul_assoc, Int.mul_comm (2 ^ b') (2 ^ b), ← Int.mul_assoc]
theorem rep_of {s : Bool} {m : Nat} {p n e : Int} (a b : Nat) (hab : (a : Int) + e = b + p) (h : sg s * m * 2 ^ a = n * 2 ^ b) : RepE (.number s m p) n e := ⟨s, m, p, a, b, rfl, hab, by rw [signed_eq]; exact h⟩
theorem rep_num {D : Ieee.Datum} {n e : Int} (h : RepE D n e) : ∃ s m p, D = .number s m p := by
  obtain ⟨s, m, p, _, _, h, _⟩ := h
  exact ⟨s, m, p, h⟩
theorem sg_natAbs (n : Int) : sg (decide (n < 0)) * n.natAbs = n := by
  unfold sg
  by_cases h : n < 0
  · simp only [h, decide_true, if_true]; omega
  · simp only [h, decide_false]; simp; omega
theorem rep_opp {D : Ieee.Datum} {n e : Int} (h : RepE D n e) : RepE D.opposite (-n) e := by
  obtain ⟨s, m, p, rfl⟩ := rep_num h
  refine rep_of ((p - e).toNat) ((e - p).toNat) (by omega) ?_
  have := rep_all h (p - e).toNat (e - p).toNat (by omega)
  rw [Int.neg_mul, ← this, show sg (!s) = -sg s by cases s <;> rfl, Int.neg_mul, Int.neg_mul]
theorem rep_sum {D E : Ieee.Datum} {x y e : Int} (h : RepE D x e) (h' : RepE E y e) : ∃ S, D.sum E = some S ∧ RepE S (x + y) e := by
  obtain ⟨s, m, i, rfl⟩ := rep_num h
  obtain ⟨t, n, j, rfl⟩ := rep_num h'
  refine ⟨_, rfl, ?_⟩
  refine rep_of (min i j - e).toNat (e - min i j).toNat (by omega) ?_
  generalize hT : Ieee.signed s m (i - min i j).toNat + Ieee.signed t n (j - min i j).toNat = T
  have e1 := rep_all h ((i - min i j).toNat + (min i j - e).toNat) (e - min i j).toNat (by omega)
  have e2 := rep_all h' ((j - min i j).toNat + (min i j - e).toNat) (e - min i j).toNat (by omega)
  have e0 : sg (if T = 0 then s && t else decide (T < 0)) * T.natAbs = T := by
    split
    · rename_i h0; rw [h0]; simp
    · exact sg_natAbs T
  rw [e0, ← hT, signed_eq, signed_eq, Int.add_mul, Int.mul_assoc, ← Int.pow_add, e1, Int.mul_assoc (sg t * n), ← Int.pow_add, e2, Int.add_mul]
theorem rep_product {D E : Ieee.Datum} {x y e d : Int} (h : RepE D x e) (h' : RepE E y d) : ∃ S, D.product E = some S ∧ RepE S (x * y) (e + d) := by
  obtain ⟨s, m, i, rfl⟩ := rep_num h
  obtain ⟨t, n, j, rfl⟩ := rep_num h'
  refine ⟨_, rfl, ?_⟩
  have e1 := rep_all h (i - e).toNat (e - i).toNat (by omega)
  have e2 := rep_all h' (j - d).toNat (d - j).toNat (by omega)
  refine rep_of ((i - e).toNat + (j - d).toNat) ((e - i).toNat + (d - j).toNat) (by omega) ?_
  rw [sg_xor, Int.natCast_mul, Int.pow_add, Int.pow_add]
  calc sg s * sg t * ((m : Int) * n) * (2 ^ (i - e).toNat * 2 ^ (j - d).toNat) = (sg s * m * 2 ^ (i - e).toNat) * (sg t * n * 2 ^ (j - d).toNat) := by ac_rfl
    _ = x * y * (2 ^ (e - i).toNat * 2 ^ (d - j).toNat) := by rw [e1, e2]; ac_rfl
theorem log2_mul2 {m : Nat} (h : m ≠ 0) (a : Nat) : (m * 2 ^ a).log2 = m.log2 + a := by
  induction a with
  | zero => simp
  | succ a ih =>
    rw [Nat.pow_succ, ← Nat.mul_assoc, Nat.mul_comm, Nat.log2_two_mul (by have := Nat.two_pow_pos a; exact Nat.mul_ne_zero h (by omega)), ih]
    omega
theorem cut_exact (s : Bool) (N d : Nat) (hN : 0 < N) : Ieee.Toward.even.cut s (N * 2 ^ d) d = N := by
  have hl : min d ((N * 2 ^ d).log2 + 2) = d := by rw [log2_mul2 (by omega)]; omega
  have hp := Nat.two_pow_pos d
  unfold Ieee.Toward.cut
  simp only [hl, Nat.shiftLeft_eq, Nat.one_mul, Nat.mul_mod_left, Nat.mul_div_cancel _ hp, Nat.mul_zero]
  have h1 : decide (2 ^ d < 0) = false := by simp
  have h2 : (2 ^ d == 0) = false := by simp
  simp [h1, h2]
theorem read_word {s : Bool} {k L : Nat} (h1 : L = 0 ∨ 2 ^ 52 ≤ k) (h2 : k < 2 ^ 53) (h3 : L ≤ 2045) : Ieee.double.read (Ieee.double.word s (L * 2 ^ 52 + k)) = .number s k (-1074 + L) := by
  have hw : Ieee.double.signWeight = 2 ^ 63 := rfl
  have hb : Ieee.double.binade = 2 ^ 52 := rfl
  have hi : Ieee.double.infRung = 2047 * 2 ^ 52 := rfl
  have hp : Ieee.double.leastPlace = -1074 := rfl
  have hr : Ieee.double.word s (L * 2 ^ 52 + k) % 2 ^ 63 = L * 2 ^ 52 + k := by
    unfold Ieee.Format.word; rw [hw]; split <;> omega
  have hs : (Ieee.double.word s (L * 2 ^ 52 + k) / 2 ^ 63 % 2 == 1) = s := by
    unfold Ieee.Format.word; rw [hw]; cases s
    · simp only [Bool.false_eq_true, if_false, beq_eq_false_iff_ne]; omega
    · simp only [if_true, beq_iff_eq]; omega
  unfold Ieee.Format.read
  simp only [hw, hb, hi, hp, hr, hs]
  by_cases hk : L * 2 ^ 52 + k < 2 ^ 52
  · rw [if_pos hk, show L = 0 by omega]; simp
  · rw [if_neg hk, if_pos (by omega), show 2 ^ 52 + (L * 2 ^ 52 + k) % 2 ^ 52 = k by omega, show (L * 2 ^ 52 + k) / 2 ^ 52 - 1 = L by omega]
theorem rep_write {s : Bool} {m : Nat} {p n e : Int} (h : RepE (.number s m p) n e) (hn : n.natAbs < 2 ^ 53) (he : -1074 ≤ e) (he' : e ≤ 104) : RepE (Ieee.double.read (Ieee.double.nearest s m p)) n e := by
  unfold Ieee.Format.nearest
  by_cases hm : m = 0
  · rw [if_pos hm]
    have e1 := rep_all h (p - e).toNat (e - p).toNat (by omega)
    rw [hm] at e1
    have : n = 0 := cancel2 (e - p).toNat (by rw [← e1]; simp)
    rw [this]
    exact ⟨s, 0, -1074, 0, (1074 + e).toNat, by cases s <;> rfl, by omega, by rw [signed_eq]; simp⟩
  rw [if_neg hm]
  have e1 := rep_all h (p - e).toNat (e - p).toNat (by omega)
  have hab : ∀ a b : Nat, (a : Int) + e = b + p → m * 2 ^ a = n.natAbs * 2 ^ b := by
    intro a b hab
    have e2 := congrArg Int.natAbs (rep_all h a b hab)
    rw [Int.natAbs_mul, Int.natAbs_mul, Int.natAbs_mul, show (sg s).natAbs = 1 by cases s <;> rfl, Nat.one_mul, Int.natAbs_natCast, Int.natAbs_pow, Int.natAbs_pow] at e2
    exact e2
  have hN : n.natAbs ≠ 0 := by
    intro h0
    have := hab (p - e).toNat (e - p).toNat (by omega)
    rw [h0, Nat.zero_mul] at this
    have h2 := Nat.two_pow_pos (p - e).toNat
    exact (Nat.mul_ne_zero hm (by omega)) this
  have hsg : sg s * n.natAbs = n := by
    apply cancel2 (e - p).toNat
    have e2 := hab (p - e).toNat (e - p).toNat (by omega)
    have e3 : (m : Int) * 2 ^ (p - e).toNat = n.natAbs * 2 ^ (e - p).toNat := by have := congrArg (fun z : Nat => (z : Int)) e2; simpa [Int.natCast_mul, Int.natCast_pow] using this
    rw [Int.mul_assoc, ← e3, ← e1, Int.mul_assoc]
  generalize hNN : n.natAbs = N at *
  have ht : p + m.log2 = N.log2 + e := by
    have e2 := congrArg Nat.log2 (hab (p - e).toNat (e - p).toNat (by omega))
    rw [log2_mul2 hm, log2_mul2 hN] at e2
    omega
  have htt : N.log2 ≤ 52 := by have := (Nat.log2_lt hN).2 hn; omega
  have hlast : max (p + m.log2 - Ieee.double.fractionBits) Ieee.double.leastPlace = max ((N.log2 : Int) + e - 52) (-1074) := by
    rw [ht]; rfl
  dsimp only
  rw [hlast]
  generalize hl : max ((N.log2 : Int) + e - 52) (-1074) = l
  have hle : l ≤ e := by omega
  have hkept : Ieee.Toward.even.cut s (m <<< (p - l).toNat) (l - p).toNat = N * 2 ^ (e - l).toNat := by
    rw [Nat.shiftLeft_eq]
    by_cases hp : l ≤ p
    · rw [show (l - p).toNat = 0 by omega, hab (p - l).toNat (e - l).toNat (by omega)]
      have := cut_exact s (N * 2 ^ (e - l).toNat) 0 (by have := Nat.two_pow_pos (e - l).toNat; exact Nat.pos_of_ne_zero (Nat.mul_ne_zero hN (by omega)))
      simpa using this
    · rw [show (p - l).toNat = 0 by omega]
      have e2 := hab 0 (e - p).toNat (by omega)
      rw [e2, show (e - p).toNat = (e - l).toNat + (l - p).toNat by omega, Nat.pow_add, ← Nat.mul_assoc]
      exact cut_exact s _ _ (by have := Nat.two_pow_pos (e - l).toNat; exact Nat.pos_of_ne_zero (Nat.mul_ne_zero hN (by omega)))
  rw [hkept]
  have hk1 : (l + 1074).toNat = 0 ∨ 2 ^ 52 ≤ N * 2 ^ (e - l).toNat := by
    by_cases hl0 : l + 1074 ≤ 0
    · exact .inl (by omega)
    refine .inr ?_
    have h1 : 2 ^ N.log2 ≤ N := Nat.log2_self_le hN
    have h2 := Nat.mul_le_mul_right (2 ^ (e - l).toNat) h1
    rwa [← Nat.pow_add, show N.log2 + (e - l).toNat = 52 by omega] at h2
  have hk2 : N * 2 ^ (e - l).toNat < 2 ^ 53 := by
    have h1 : N < 2 ^ (N.log2 + 1) := Nat.lt_log2_self
    have h2 := Nat.mul_lt_mul_of_pos_right h1 (Nat.two_pow_pos (e - l).toNat)
    rw [← Nat.pow_add] at h2
    exact Nat.lt_of_lt_of_le h2 (Nat.pow_le_pow_right (by decide) (by omega))
  have hL : (l - Ieee.double.leastPlace).toNat = (l + 1074).toNat := by
    rw [show Ieee.double.leastPlace = -1074 from rfl]; omega
  rw [hL, show Ieee.double.binade = 2 ^ 52 from rfl, show Ieee.double.infRung = 2047 * 2 ^ 52 from rfl]
  have hll : (l + 1074).toNat ≤ 2045 := by omega
  rw [Nat.min_eq_left (by omega), read_word hk1 hk2 hll]
  refine rep_of 0 (e - l).toNat (by omega) ?_
  rw [Int.natCast_mul, Int.natCast_pow, Int.pow_zero, Int.mul_one, ← Int.mul_assoc, hsg]
  rfl
theorem read_word32 {s : Bool} {k L : Nat} (h1 : L = 0 ∨ 2 ^ 23 ≤ k) (h2 : k < 2 ^ 24) (h3 : L ≤ 253) : Ieee.single.read (Ieee.single.word s (L * 2 ^ 23 + k)) = .number s k (-149 + L) := by
  have hw : Ieee.single.signWeight = 2 ^ 31 := rfl
  have hb : Ieee.single.binade = 2 ^ 23 := rfl
  have hi : Ieee.single.infRung = 255 * 2 ^ 23 := rfl
  have hp : Ieee.single.leastPlace = -149 := rfl
  have hr : Ieee.single.word s (L * 2 ^ 23 + k) % 2 ^ 31 = L * 2 ^ 23 + k := by
    unfold Ieee.Format.word; rw [hw]; split <;> omega
  have hs : (Ieee.single.word s (L * 2 ^ 23 + k) / 2 ^ 31 % 2 == 1) = s := by
    unfold Ieee.Format.word; rw [hw]; cases s
    · simp only [Bool.false_eq_true, if_false, beq_eq_false_iff_ne]; omega
    · simp only [if_true, beq_iff_eq]; omega
  unfold Ieee.Format.read
  simp only [hw, hb, hi, hp, hr, hs]
  by_cases hk : L * 2 ^ 23 + k < 2 ^ 23
  · rw [if_pos hk, show L = 0 by omega]; simp
  · rw [if_neg hk, if_pos (by omega), show 2 ^ 23 + (L * 2 ^ 23 + k) % 2 ^ 23 = k by omega, show (L * 2 ^ 23 + k) / 2 ^ 23 - 1 = L by omega]
theorem rep_write32 {s : Bool} {m : Nat} {p n e : Int} (h : RepE (.number s m p) n e) (hn : n.natAbs < 2 ^ 24) (he : -149 ≤ e) (he' : e ≤ 104) : RepE (Ieee.single.read (Ieee.single.nearest s m p)) n e := by
  unfold Ieee.Format.nearest
  by_cases hm : m = 0
  · rw [if_pos hm]
    have e1 := rep_all h (p - e).toNat (e - p).toNat (by omega)
    rw [hm] at e1
    have : n = 0 := cancel2 (e - p).toNat (by rw [← e1]; simp)
    rw [this]
    exact ⟨s, 0, -149, 0, (149 + e).toNat, by cases s <;> rfl, by omega, by rw [signed_eq]; simp⟩
  rw [if_neg hm]
  have e1 := rep_all h (p - e).toNat (e - p).toNat (by omega)
  have hab : ∀ a b : Nat, (a : Int) + e = b + p → m * 2 ^ a = n.natAbs * 2 ^ b := by
    intro a b hab
    have e2 := congrArg Int.natAbs (rep_all h a b hab)
    rw [Int.natAbs_mul, Int.natAbs_mul, Int.natAbs_mul, show (sg s).natAbs = 1 by cases s <;> rfl, Nat.one_mul, Int.natAbs_natCast, Int.natAbs_pow, Int.natAbs_pow] at e2
    exact e2
  have hN : n.natAbs ≠ 0 := by
    intro h0
    have := hab (p - e).toNat (e - p).toNat (by omega)
    rw [h0, Nat.zero_mul] at this
    have h2 := Nat.two_pow_pos (p - e).toNat
    exact (Nat.mul_ne_zero hm (by omega)) this
  have hsg : sg s * n.natAbs = n := by
    apply cancel2 (e - p).toNat
    have e2 := hab (p - e).toNat (e - p).toNat (by omega)
    have e3 : (m : Int) * 2 ^ (p - e).toNat = n.natAbs * 2 ^ (e - p).toNat := by have := congrArg (fun z : Nat => (z : Int)) e2; simpa [Int.natCast_mul, Int.natCast_pow] using this
    rw [Int.mul_assoc, ← e3, ← e1, Int.mul_assoc]
  generalize hNN : n.natAbs = N at *
  have ht : p + m.log2 = N.log2 + e := by
    have e2 := congrArg Nat.log2 (hab (p - e).toNat (e - p).toNat (by omega))
    rw [log2_mul2 hm, log2_mul2 hN] at e2
    omega
  have htt : N.log2 ≤ 23 := by have := (Nat.log2_lt hN).2 hn; omega
  have hlast : max (p + m.log2 - Ieee.single.fractionBits) Ieee.single.leastPlace = max ((N.log2 : Int) + e - 23) (-149) := by
    rw [ht]; rfl
  dsimp only
  rw [hlast]
  generalize hl : max ((N.log2 : Int) + e - 23) (-149) = l
  have hle : l ≤ e := by omega
  have hkept : Ieee.Toward.even.cut s (m <<< (p - l).toNat) (l - p).toNat = N * 2 ^ (e - l).toNat := by
    rw [Nat.shiftLeft_eq]
    by_cases hp : l ≤ p
    · rw [show (l - p).toNat = 0 by omega, hab (p - l).toNat (e - l).toNat (by omega)]
      have := cut_exact s (N * 2 ^ (e - l).toNat) 0 (by have := Nat.two_pow_pos (e - l).toNat; exact Nat.pos_of_ne_zero (Nat.mul_ne_zero hN (by omega)))
      simpa using this
    · rw [show (p - l).toNat = 0 by omega]
      have e2 := hab 0 (e - p).toNat (by omega)
      rw [e2, show (e - p).toNat = (e - l).toNat + (l - p).toNat by omega, Nat.pow_add, ← Nat.mul_assoc]
      exact cut_exact s _ _ (by have := Nat.two_pow_pos (e - l).toNat; exact Nat.pos_of_ne_zero (Nat.mul_ne_zero hN (by omega)))
  rw [hkept]
  have hk1 : (l + 149).toNat = 0 ∨ 2 ^ 23 ≤ N * 2 ^ (e - l).toNat := by
    by_cases hl0 : l + 149 ≤ 0
    · exact .inl (by omega)
    refine .inr ?_
    have h1 : 2 ^ N.log2 ≤ N := Nat.log2_self_le hN
    have h2 := Nat.mul_le_mul_right (2 ^ (e - l).toNat) h1
    rwa [← Nat.pow_add, show N.log2 + (e - l).toNat = 23 by omega] at h2
  have hk2 : N * 2 ^ (e - l).toNat < 2 ^ 24 := by
    have h1 : N < 2 ^ (N.log2 + 1) := Nat.lt_log2_self
    have h2 := Nat.mul_lt_mul_of_pos_right h1 (Nat.two_pow_pos (e - l).toNat)
    rw [← Nat.pow_add] at h2
    exact Nat.lt_of_lt_of_le h2 (Nat.pow_le_pow_right (by decide) (by omega))
  have hL : (l - Ieee.single.leastPlace).toNat = (l + 149).toNat := by
    rw [show Ieee.single.leastPlace = -149 from rfl]; omega
  rw [hL, show Ieee.single.binade = 2 ^ 23 from rfl, show Ieee.single.infRung = 255 * 2 ^ 23 from rfl]
  have hll : (l + 149).toNat ≤ 253 := by omega
  rw [Nat.min_eq_left (by omega), read_word32 hk1 hk2 hll]
  refine rep_of 0 (e - l).toNat (by omega) ?_
  rw [Int.natCast_mul, Int.natCast_pow, Int.pow_zero, Int.mul_one, ← Int.mul_assoc, hsg]
  rfl
/-- The float is the whole number n. -/
def Z (x : Fl) (n : Int) : Prop := ∃ b, x = some b ∧ Rep (Ieee.double.read b) n
theorem rep_nan {D : Ieee.Datum} {n e : Int} (h : RepE D n e) : D.isNaN = false := by obtain ⟨s, m, p, rfl⟩ := rep_num h; rfl
theorem z_write {D : Ieee.Datum} {n : Int} (h : Rep D n) (hn : n.natAbs < 2 ^ 53) : Z (cn .f64 (Ieee.double.write D)) n := by
  obtain ⟨s, m, p, rfl⟩ := rep_num h
  have h2 := rep_write h hn (by decide) (by decide)
  exact ⟨_, cn_not (rep_nan h2), h2⟩
theorem rep_whole (n : Int) : Rep (.number (n < 0) n.natAbs 0) n := rep_of 0 0 rfl (by rw [sg_natAbs])
theorem z_fint {n : Int} (hn : n.natAbs < 2 ^ 53) : Z (fint .f64 n) n := z_write (rep_whole n) hn
theorem z_const {b : Nat} {n : Int} (h : Rep (Ieee.double.read b) n) : Z (cn .f64 b) n := ⟨b, cn_not (rep_nan h), h⟩
theorem z_zero : Z (cn .f64 0) 0 := z_const ⟨false, 0, -1074, 0, 1074, rfl, by decide, by rw [signed_eq, Int.zero_mul]; rfl⟩
theorem z_one : Z (cn .f64 4607182418800017408) 1 := z_const ⟨false, 4503599627370496, -52, 0, 52, rfl, by decide, by decide⟩
theorem z_op {op : BinOp} {g : Ieee.Format → Nat → Nat → Option Nat} (hop : ∀ a b, floatBits op .f64 a b = g Ieee.double a b) {a b : Nat} {S : Ieee.Datum} {n : Int} (hg : g Ieee.double a b = some (Ieee.double.write S)) (hS : Rep S n) (hn : n.natAbs < 2 ^ 53) : Z (fop op .f64 (some a) (some b)) n := by
  unfold fop
  show Z ((floatBits op .f64 a b).bind fun r => cn .f64 r) n
  rw [hop, hg]
  exact z_write hS hn
theorem z_add {x y : Fl} {m n : Int} (hx : Z x m) (hy : Z y n) (h : (m + n).natAbs < 2 ^ 53) : Z (fop .add .f64 x y) (m + n) := by
  obtain ⟨a, rfl, ha⟩ := hx
  obtain ⟨b, rfl, hb⟩ := hy
  obtain ⟨S, e, hS⟩ := rep_sum ha hb
  exact z_op (g := Ieee.Format.add) (fun _ _ => rfl) (by unfold Ieee.Format.add; rw [e]; rfl) hS h
theorem z_sub {x y : Fl} {m n : Int} (hx : Z x m) (hy : Z y n) (h : (m - n).natAbs < 2 ^ 53) : Z (fop .sub .f64 x y) (m - n) := by
  obtain ⟨a, rfl, ha⟩ := hx
  obtain ⟨b, rfl, hb⟩ := hy
  obtain ⟨S, e, hS⟩ := rep_sum ha (rep_opp hb)
  exact z_op (g := Ieee.Format.sub) (fun _ _ => rfl) (by unfold Ieee.Format.sub; rw [e]; rfl) hS h
theorem z_mul {x y : Fl} {m n : Int} (hx : Z x m) (hy : Z y n) (h : (m * n).natAbs < 2 ^ 53) : Z (fop .mul .f64 x y) (m * n) := by
  obtain ⟨a, rfl, ha⟩ := hx
  obtain ⟨b, rfl, hb⟩ := hy
  obtain ⟨S, e, hS⟩ := rep_product ha hb
  exact z_op (g := Ieee.Format.mul) (fun _ _ => rfl) (by unfold Ieee.Format.mul; rw [e]; rfl) hS h
theorem rep_order {D E : Ieee.Datum} {x y e : Int} (h : RepE D x e) (h' : RepE E y e) : D.order E = some (compare x y) := by
  obtain ⟨s, m, i, rfl⟩ := rep_num h
  obtain ⟨t, n, j, rfl⟩ := rep_num h'
  show some (compare (Ieee.signed s m (i - min i j).toNat) (Ieee.signed t n (j - min i j).toNat)) = _
  have e1 := rep_all h ((i - min i j).toNat + (min i j - e).toNat) (e - min i j).toNat (by omega)
  have e2 := rep_all h' ((j - min i j).toNat + (min i j - e).toNat) (e - min i j).toNat (by omega)
  rw [Int.pow_add, ← Int.mul_assoc, ← signed_eq] at e1 e2
  generalize Ieee.signed s m (i - min i j).toNat = X at *
  generalize Ieee.signed t n (j - min i j).toNat = Y at *
  have p1 := p2 (min i j - e).toNat
  have p3 := p2 (e - min i j).toNat
  have l : X < Y ↔ x < y := by
    constructor
    · intro h
      have h2 := Int.mul_lt_mul_of_pos_right h p1
      rw [e1, e2] at h2
      exact Int.lt_of_mul_lt_mul_right h2 (Int.le_of_lt p3)
    · intro h
      have h2 := Int.mul_lt_mul_of_pos_right h p3
      rw [← e1, ← e2] at h2
      exact Int.lt_of_mul_lt_mul_right h2 (Int.le_of_lt p1)
  have q : X = Y ↔ x = y := by
    constructor
    · intro h
      subst h
      exact cancel2 _ (e1.symm.trans e2)
    · intro h
      subst h
      exact cancel2 _ (e1.trans e2.symm)
  show some (compareOfLessAndEq X Y) = some (compareOfLessAndEq x y)
  unfold compareOfLessAndEq
  simp only [l, q]
theorem z_ord {x y : Fl} {m n : Int} (hx : Z x m) (hy : Z y n) : ford .f64 x y = some (compare m n) := by
  obtain ⟨a, rfl, ha⟩ := hx
  obtain ⟨b, rfl, hb⟩ := hy
  exact rep_order ha hb
theorem cmpI (m n : Int) : compare m n = if m < n then .lt else if m = n then .eq else .gt := rfl
theorem z_eql {x y : Fl} {m n : Int} (hx : Z x m) (hy : Z y n) : fcmp .eql .f64 x y = decide (m = n) := by
  unfold fcmp; simp only [z_ord hx hy, cmpI]
  by_cases h1 : m < n
  · have : m ≠ n := by omega
    simp [h1, this]
  · by_cases h2 : m = n <;> simp [h1, h2]
theorem z_neq {x y : Fl} {m n : Int} (hx : Z x m) (hy : Z y n) : fcmp .neq .f64 x y = decide (m ≠ n) := by
  unfold fcmp; simp only [z_ord hx hy, cmpI]
  by_cases h1 : m < n
  · have : m ≠ n := by omega
    simp [h1, this]
  · by_cases h2 : m = n <;> simp [h1, h2]
theorem z_lss {x y : Fl} {m n : Int} (hx : Z x m) (hy : Z y n) : fcmp .lss .f64 x y = decide (m < n) := by
  unfold fcmp; simp only [z_ord hx hy, cmpI]
  by_cases h1 : m < n
  · simp [h1]
  · by_cases h2 : m = n <;> simp [h1, h2]

/-! complex whole numbers -/
def mulI (z w : Int × Int) : Int × Int := (z.1 * w.1 - z.2 * w.2, z.1 * w.2 + z.2 * w.1)
def B (A : Nat) (z : Int × Int) : Prop := z.1.natAbs ≤ A ∧ z.2.natAbs ≤ A
theorem na_mul {a b : Int} {A C : Nat} (h : a.natAbs ≤ A) (h' : b.natAbs ≤ C) : (a * b).natAbs ≤ A * C := by
  rw [Int.natAbs_mul]
  exact Nat.mul_le_mul h h'
theorem mulI_bd {z w : Int × Int} {A C : Nat} (h : B A z) (h' : B C w) : B (2 * (A * C)) (mulI z w) := by
  have a1 := na_mul h.1 h'.1
  have a2 := na_mul h.2 h'.2
  have a3 := na_mul h.1 h'.2
  have a4 := na_mul h.2 h'.1
  unfold mulI
  constructor <;> dsimp only <;> omega
/-- The product, as the code forms it. -/
theorem z_times {a b c d : Fl} {z w : Int × Int} {A C : Nat} (ha : Z a z.1) (hb : Z b z.2) (hc : Z c w.1) (hd : Z d w.2) (h : B A z) (h' : B C w) (hAC : A * C < 2 ^ 50) : Z (fop .sub .f64 (fop .mul .f64 a c) (fop .mul .f64 b d)) (mulI z w).1 ∧ Z (fop .add .f64 (fop .mul .f64 a d) (fop .mul .f64 b c)) (mulI z w).2 := by
  have a1 := na_mul h.1 h'.1
  have a2 := na_mul h.2 h'.2
  have a3 := na_mul h.1 h'.2
  have a4 := na_mul h.2 h'.1
  unfold mulI
  exact ⟨z_sub (z_mul ha hc (by omega)) (z_mul hb hd (by omega)) (by omega), z_add (z_mul ha hd (by omega)) (z_mul hb hc (by omega)) (by omega)⟩

/-! quotients and opposites of whole numbers -/
theorem rep_quotient {D E : Ieee.Datum} {q d : Int} (h : Rep D (q * d)) (h' : Rep E d) (hd : d ≠ 0) (hq : q.natAbs < 2 ^ 53) : ∃ S, D.quotient 54 E = some S ∧ Rep S q := by
  obtain ⟨s, m, i, rfl⟩ := rep_num h
  obtain ⟨t, n, j, rfl⟩ := rep_num h'
  have e1 := rep_all h i.toNat (-i).toNat (by omega)
  have e2 := rep_all h' j.toNat (-j).toNat (by omega)
  have hn : n ≠ 0 := by
    intro h0
    subst h0
    apply hd
    exact cancel2 (-j).toNat (by rw [← e2]; simp)
  show ∃ S, (if n = 0 then _ else _) = some S ∧ _
  rw [if_neg hn]
  refine ⟨_, rfl, ?_⟩
  by_cases hm : m = 0
  · subst hm
    have q0 : q * d = 0 := cancel2 (-i).toNat (by rw [← e1]; simp)
    have q1 : q = 0 := by rcases Int.mul_eq_zero.1 q0 with h | h; exact h; exact absurd h hd
    subst q1
    generalize i - j - ((54 + n.log2 - Nat.log2 0 : Nat) : Int) - 1 = p
    refine rep_of p.toNat (-p).toNat (by omega) ?_
    simp
  have hq0 : q ≠ 0 := by
    intro h0
    subst h0
    rw [Int.zero_mul, Int.zero_mul] at e1
    have := p2 i.toNat
    rcases Int.mul_eq_zero.1 e1 with h | h
    · rcases Int.mul_eq_zero.1 h with h | h
      · cases s <;> exact absurd h (by decide)
      · omega
    · omega
  -- one relation for the two
  have key : ∀ a b : Nat, (a : Int) = b + (i - j) → sg s * m * 2 ^ a = q * (sg t * n) * 2 ^ b := by
    intro a b hab
    apply cancel2 ((i.toNat + (-j).toNat))
    calc sg s * m * 2 ^ a * 2 ^ (i.toNat + (-j).toNat) = (sg s * m * 2 ^ i.toNat) * (2 ^ a * 2 ^ (-j).toNat) := by rw [Int.pow_add]; ac_rfl
      _ = q * (d * 2 ^ (-j).toNat) * (2 ^ (-i).toNat * 2 ^ a) := by rw [e1]; ac_rfl
      _ = q * (sg t * n * 2 ^ j.toNat) * (2 ^ (-i).toNat * 2 ^ a) := by rw [e2]
      _ = q * (sg t * n) * (2 ^ ((-i).toNat + a + j.toNat)) := by rw [Int.pow_add, Int.pow_add]; ac_rfl
      _ = q * (sg t * n) * (2 ^ (b + (i.toNat + (-j).toNat))) := by rw [show (-i).toNat + a + j.toNat = b + (i.toNat + (-j).toNat) by omega]
      _ = q * (sg t * n) * 2 ^ b * 2 ^ (i.toNat + (-j).toNat) := by rw [Int.pow_add]; ac_rfl
  have keyN : ∀ a b : Nat, (a : Int) = b + (i - j) → m * 2 ^ a = q.natAbs * n * 2 ^ b := by
    intro a b hab
    have e := congrArg Int.natAbs (key a b hab)
    rw [Int.natAbs_mul, Int.natAbs_mul, Int.natAbs_mul, Int.natAbs_mul, Int.natAbs_mul, show (sg s).natAbs = 1 by cases s <;> rfl, show (sg t).natAbs = 1 by cases t <;> rfl, Nat.one_mul, Nat.one_mul, Int.natAbs_natCast, Int.natAbs_natCast, Int.natAbs_pow, Int.natAbs_pow] at e
    exact e
  have hqa : q.natAbs ≠ 0 := by omega
  have hl : (m.log2 : Int) + (i - j).toNat ≤ q.natAbs.log2 + n.log2 + 1 + (-(i - j)).toNat := by
    have e := congrArg Nat.log2 (keyN (i - j).toNat (-(i - j)).toNat (by omega))
    rw [log2_mul2 hm, log2_mul2 (Nat.mul_ne_zero hqa hn)] at e
    have h1 : q.natAbs * n < 2 ^ (q.natAbs.log2 + 1 + (n.log2 + 1)) := by
      rw [Nat.pow_add]
      exact Nat.mul_lt_mul'' Nat.lt_log2_self Nat.lt_log2_self
    have h2 : (q.natAbs * n).log2 < q.natAbs.log2 + 1 + (n.log2 + 1) := (Nat.log2_lt (Nat.mul_ne_zero hqa hn)).2 h1
    omega
  have hlq : q.natAbs.log2 < 53 := (Nat.log2_lt hqa).2 hq
  have hdig : ∃ c : Nat, ((54 + n.log2 - m.log2 : Nat) : Int) = c + (i - j) := ⟨(((54 + n.log2 - m.log2 : Nat) : Int) - (i - j)).toNat, by omega⟩
  obtain ⟨c, hc⟩ := hdig
  have hdiv : m <<< (54 + n.log2 - m.log2) = (q.natAbs * 2 ^ c) * n := by
    rw [Nat.shiftLeft_eq, keyN _ c hc]; ac_rfl
  rw [hdiv, Nat.mul_div_cancel _ (Nat.pos_of_ne_zero hn), Nat.mul_mod_left]
  refine rep_of 0 (c + 1) (by omega) ?_
  have hsg : sg (s ^^ t) * q.natAbs = q := by
    have e := key _ c hc
    have e3 : (m : Int) * 2 ^ (54 + n.log2 - m.log2) = q.natAbs * n * 2 ^ c := by
      have := congrArg (fun z : Nat => (z : Int)) (keyN _ c hc)
      simpa [Int.natCast_mul, Int.natCast_pow] using this
    rw [Int.mul_assoc, e3] at e
    have hn' : (n : Int) * 2 ^ c ≠ 0 := Int.mul_ne_zero (by omega) (Int.ne_of_gt (p2 c))
    have e4 : sg s * q.natAbs = q * sg t := by
      apply Int.eq_of_mul_eq_mul_right hn'
      calc sg s * q.natAbs * (n * 2 ^ c) = sg s * (q.natAbs * n * 2 ^ c) := by ac_rfl
        _ = q * (sg t * n) * 2 ^ c := e
        _ = q * sg t * (n * 2 ^ c) := by ac_rfl
    rw [sg_xor]
    calc sg s * sg t * q.natAbs = (sg s * q.natAbs) * sg t := by ac_rfl
      _ = q * (sg t * sg t) := by rw [e4]; ac_rfl
      _ = q := by rw [sg_sq, Int.mul_one]
  have e5 : ((2 * (q.natAbs * 2 ^ c) + (0 != 0).toNat : Nat) : Int) = q.natAbs * 2 ^ (c + 1) := by
    rw [show ((0 : Nat) != 0).toNat = 0 from rfl, Nat.add_zero, Int.natCast_mul, Int.natCast_mul, Int.natCast_pow, Int.pow_succ]
    show (2 : Int) * ((q.natAbs : Int) * 2 ^ c) = q.natAbs * (2 ^ c * 2)
    ac_rfl
  rw [e5, Int.pow_zero, Int.mul_one, ← Int.mul_assoc, hsg]
theorem z_quo {x y : Fl} {q d : Int} (hx : Z x (q * d)) (hy : Z y d) (hd : d ≠ 0) (h : q.natAbs < 2 ^ 53) : Z (fop .quo .f64 x y) q := by
  obtain ⟨a, rfl, ha⟩ := hx
  obtain ⟨b, rfl, hb⟩ := hy
  obtain ⟨S, e, hS⟩ := rep_quotient ha hb hd h
  exact z_op (g := Ieee.Format.div) (fun _ _ => rfl) (by unfold Ieee.Format.div; rw [show Ieee.double.fractionBits + 2 = 54 from rfl, e]; rfl) hS h
theorem read_neg (b : Nat) : Ieee.double.read (b ^^^ 2 ^ 63) = (Ieee.double.read b).opposite := by
  have hw : Ieee.double.signWeight = 2 ^ 63 := rfl
  have h1 : (b ^^^ 2 ^ 63) % 2 ^ 63 = b % 2 ^ 63 := by
    rw [Nat.xor_mod_two_pow, Nat.mod_self, Nat.xor_zero]
  have h2 : ((b ^^^ 2 ^ 63) / 2 ^ 63 % 2 == 1) = !(b / 2 ^ 63 % 2 == 1) := by
    have h3 : (b ^^^ 2 ^ 63) / 2 ^ 63 = (b / 2 ^ 63) ^^^ 1 := by
      rw [Nat.xor_div_two_pow]
    have h4 : ((b / 2 ^ 63) ^^^ 1) % 2 ^ 1 = (b / 2 ^ 63 % 2 ^ 1) ^^^ (1 % 2 ^ 1) := Nat.xor_mod_two_pow
    rw [h3, show (((b / 2 ^ 63) ^^^ 1) % 2) = (b / 2 ^ 63 % 2) ^^^ 1 from h4]
    have : b / 2 ^ 63 % 2 = 0 ∨ b / 2 ^ 63 % 2 = 1 := by omega
    rcases this with h | h <;> rw [h] <;> rfl
  unfold Ieee.Format.read
  simp only [hw, h1, h2]
  split
  · rfl
  · split
    · rfl
    · split <;> rfl
theorem z_neg {x : Fl} {n : Int} (hx : Z x n) : Z (fneg .f64 x) (-n) := by
  obtain ⟨b, rfl, hb⟩ := hx
  have h : Rep (Ieee.double.read (b ^^^ 2 ^ 63)) (-n) := by rw [read_neg]; exact rep_opp hb
  exact ⟨b ^^^ 2 ^ 63, cn_not (k := .f64) (rep_nan h), h⟩

theorem rdS80 (l : List S80) (n : Nat) : rd_T80 l (n : Int) = l.getD n z80 := by
  unfold rd_T80
  rw [Int.toNat_natCast]
def unit_ : List (Int × Int) := [(1, 0), (2, 0), (0, 1), (-4, 0), (0, -2), (1, 1)]
theorem z_two : Z (cn .f64 4611686018427387904) 2 := z_const ⟨false, 4503599627370496, -51, 0, 51, rfl, by decide, by decide⟩
theorem z_m4 : Z (cn .f64 13839561654909534208) (-4) := z_const ⟨true, 4503599627370496, -50, 0, 50, rfl, by decide, by decide⟩
theorem z_m2 : Z (cn .f64 13835058055282163712) (-2) := z_const ⟨true, 4503599627370496, -51, 0, 51, rfl, by decide, by decide⟩
theorem z_fin {x : Fl} {n : Int} (h : Z x n) : fin x = true := by
  unfold fin
  have := z_sub h h (by rw [Int.sub_self]; decide)
  rw [z_eql this z_zero, Int.sub_self]
  rfl
/-- a number times b, over b -/
theorem over_ev {p0 p1 b0 b1 : Fl} {a b : Int × Int} (h0 : Z p0 (mulI a b).1) (h1 : Z p1 (mulI a b).2) (hb0 : Z b0 b.1) (hb1 : Z b1 b.2) (ha : B 128 a) (hb : B 4 b) (hn : b.1 * b.1 + b.2 * b.2 ≠ 0) :
    ∃ x y, Ev (fun k => impl_CxOver.f k p0 p1 b0 b1) (x, y, true) ∧ Z x a.1 ∧ Z y a.2 := by
  have m1 := na_mul hb.1 hb.1
  have m2 := na_mul hb.2 hb.2
  have hs : Z (fop .add .f64 (fop .mul .f64 b0 b0) (fop .mul .f64 b1 b1)) (b.1 * b.1 + b.2 * b.2) := z_add (z_mul hb0 hb0 (by omega)) (z_mul hb1 hb1 (by omega)) (by omega)
  have hP := mulI_bd ha hb
  have hc : B 4 (b.1, -b.2) := ⟨hb.1, by show (-b.2).natAbs ≤ 4; have := hb.2; omega⟩
  have ht := z_times (w := (b.1, -b.2)) h0 h1 hb0 (z_neg hb1) hP hc (by decide)
  have e1 : (mulI (mulI a b) (b.1, -b.2)).1 = a.1 * (b.1 * b.1 + b.2 * b.2) := by simp only [mulI]; grind
  have e2 : (mulI (mulI a b) (b.1, -b.2)).2 = a.2 * (b.1 * b.1 + b.2 * b.2) := by simp only [mulI]; grind
  rw [e1, e2] at ht
  refine ⟨_, _, ?_, z_quo ht.1 hs hn (by have := ha.1; omega), z_quo ht.2 hs hn (by have := ha.2; omega)⟩
  unfold impl_CxOver.f
  have hf := finite_ev [p0, p1, b0, b1, fop .add .f64 (fop .mul .f64 b0 b0) (fop .mul .f64 b1 b1)] (by simp)
  rw [show [p0, p1, b0, b1, fop .add .f64 (fop .mul .f64 b0 b0) (fop .mul .f64 b1 b1)].all fin = true by simp only [List.all_cons, List.all_nil, z_fin h0, z_fin h1, z_fin hb0, z_fin hb1, z_fin hs]; rfl] at hf
  simp only [Option.bind_some]
  refine Ev.bind hf (ev_pos (by trivial) (ev_succ ?_))
  rw [z_eql hs z_zero, decide_eq_false hn]
  simp only [impl_CxOver.j0, impl_CxTimes.f, Option.bind_some]
  exact ev_neg (by decide) (Ev.now _)
theorem over_zero {p0 p1 : Fl} {a : Int × Int} (h0 : Z p0 a.1) (h1 : Z p1 a.2) : ∃ x y, Ev (fun k => impl_CxOver.f k p0 p1 (cn .f64 0) (cn .f64 0)) (x, y, false) := by
  have hs : Z (fop .add .f64 (fop .mul .f64 (cn .f64 0) (cn .f64 0)) (fop .mul .f64 (cn .f64 0) (cn .f64 0))) (0 * 0 + 0 * 0) := z_add (z_mul z_zero z_zero (by decide)) (z_mul z_zero z_zero (by decide)) (by decide)
  refine ⟨cn .f64 0, cn .f64 0, ?_⟩
  unfold impl_CxOver.f
  have hf := finite_ev [p0, p1, cn .f64 0, cn .f64 0, fop .add .f64 (fop .mul .f64 (cn .f64 0) (cn .f64 0)) (fop .mul .f64 (cn .f64 0) (cn .f64 0))] (by simp)
  rw [show [p0, p1, cn .f64 0, cn .f64 0, fop .add .f64 (fop .mul .f64 (cn .f64 0) (cn .f64 0)) (fop .mul .f64 (cn .f64 0) (cn .f64 0))].all fin = true by simp only [List.all_cons, List.all_nil, z_fin h0, z_fin h1, z_fin z_zero, z_fin hs]; rfl] at hf
  simp only [Option.bind_some]
  refine Ev.bind hf (ev_pos (by trivial) (ev_succ ?_))
  rw [z_eql hs z_zero, decide_eq_true (by decide)]
  simp only [impl_CxOver.j0]
  exact ev_pos (by trivial) (Ev.now _)
/-! a quarter turn -/
def turn : List S80 := [⟨some 1065353216, some 0⟩, ⟨some 0, some 1065353216⟩, ⟨some 3212836864, some 0⟩, ⟨some 2147483648, some 3212836864⟩, ⟨some 1065353216, some 2147483648⟩, ⟨some 0, some 1065353216⟩, ⟨some 3212836864, some 0⟩, ⟨some 2147483648, some 3212836864⟩, ⟨some 1065353216, some 2147483648⟩]
theorem turn_go : impl_Steps4.l0 10 [] 9 0 (cn .f64 0) (cn .f64 4607182418800017408) (cn .f64 4607182418800017408) (cn .f64 0) = some (turn, true) := by kernel_rfl
theorem l0_more : ∀ k, ∀ (x7 : List S80) (n i : Int) (a b c d : Fl) (r : List S80 × Bool), impl_Steps4.l0 k x7 n i a b c d = some r → impl_Steps4.l0 (k + 1) x7 n i a b c d = some r := by
  intro k
  induction k with
  | zero => intro x7 n i a b c d r h; cases h
  | succ k ih =>
    intro x7 n i a b c d r h
    unfold impl_Steps4.l0 at h ⊢
    by_cases c1 : i < n
    · rw [if_pos c1] at h ⊢
      cases e : impl_Sharper.f c d with
      | none => rw [e] at h; cases h
      | some u =>
        rw [e] at h
        simp only [Option.bind_some] at h ⊢
        by_cases c2 : x7.length < 17592186044416
        · rw [if_pos c2] at h ⊢
          simp only [impl_CxTimes.f, Option.bind_some] at h ⊢
          exact ih _ _ _ _ _ _ _ _ h
        · rw [if_neg c2] at h; cases h
    · rw [if_neg c1] at h ⊢
      exact h
theorem l0_ev {k : Nat} {x7 : List S80} {n i : Int} {a b c d : Fl} {r : List S80 × Bool} (h : impl_Steps4.l0 k x7 n i a b c d = some r) : Ev (fun k => impl_Steps4.l0 k x7 n i a b c d) r := by
  refine ⟨k, fun m hm => ?_⟩
  obtain ⟨e, rfl⟩ := Nat.exists_eq_add_of_le hm
  clear hm
  induction e with
  | zero => exact h
  | succ e ih => exact l0_more _ _ _ _ _ _ _ _ _ ih
theorem turn_ev : Ev (fun k => impl_Steps4.f k (cn .f64 0) (cn .f64 4607182418800017408) 8) (turn, true) := by
  have e : impl_in.f 8 0 200 = some true := rfl
  unfold impl_Steps4.f
  simp only [e, Option.bind_some]
  rw [w64 (x := 8 + 1) (by decide) (by decide)]
  exact ev_pos (by trivial) (l0_ev turn_go)
theorem turn_same : ∀ i : Fin 9, fcmp .neq .f32 ((turn.getD i.val z80).f0) ((turn.getD (i.val % 4) z80).f0) = false ∧ fcmp .neq .f32 ((turn.getD i.val z80).f1) ((turn.getD (i.val % 4) z80).f1) = false := by
  intro i
  match i with
  | ⟨0, _⟩ => exact ⟨by kernel_rfl, by kernel_rfl⟩
  | ⟨1, _⟩ => exact ⟨by kernel_rfl, by kernel_rfl⟩
  | ⟨2, _⟩ => exact ⟨by kernel_rfl, by kernel_rfl⟩
  | ⟨3, _⟩ => exact ⟨by kernel_rfl, by kernel_rfl⟩
  | ⟨4, _⟩ => exact ⟨by kernel_rfl, by kernel_rfl⟩
  | ⟨5, _⟩ => exact ⟨by kernel_rfl, by kernel_rfl⟩
  | ⟨6, _⟩ => exact ⟨by kernel_rfl, by kernel_rfl⟩
  | ⟨7, _⟩ => exact ⟨by kernel_rfl, by kernel_rfl⟩
  | ⟨8, _⟩ => exact ⟨by kernel_rfl, by kernel_rfl⟩
theorem turn_first : fcmp .eql .f32 ((turn.getD 0 z80).f0) (cn .f32 1065353216) = true := by kernel_rfl
theorem mulI_comm (a b : Int × Int) : mulI a b = mulI b a := by
  simp only [mulI, Prod.mk.injEq]
  constructor <;> grind
theorem last_ev {a0 a1 b0 b1 : Fl} {a b : Int × Int} (ha0 : Z a0 a.1) (ha1 : Z a1 a.2) (hb0 : Z b0 b.1) (hb1 : Z b1 b.2) (ha : B 128 a) (hb : B 4 b) : ∀ (d i : Nat), i + d = 9 → Ev (fun k => laws_FnQuotient.l0 k turn (i : Int) a0 a1 b0 b1) true := by
  have hlen : turn.length = 9 := rfl
  intro d
  induction d with
  | zero =>
    intro i hi
    obtain rfl : i = 9 := hi
    have t1 := z_times ha0 ha1 hb0 hb1 ha hb (by decide)
    have t2 := z_times hb0 hb1 ha0 ha1 hb ha (by decide)
    have m1 := mulI_bd ha hb
    rw [mulI_comm b a] at t2
    have s1 := z_sub t1.1 t2.1 (by rw [Int.sub_self]; decide)
    have s2 := z_sub t1.2 t2.2 (by rw [Int.sub_self]; decide)
    have u1 : Z (fop .add .f64 a0 b0) (a.1 + b.1) := z_add ha0 hb0 (by have := ha.1; have := hb.1; omega)
    have v1 := z_sub ha0 ha0 (by rw [Int.sub_self]; decide)
    have v2 := z_sub ha1 ha1 (by rw [Int.sub_self]; decide)
    refine ev_succ ?_
    simp only [laws_FnQuotient.l0, impl_Flutter.f, impl_CxTimes.f, impl_CxLess.f, impl_CxAdd.f, Option.bind_some, z_eql s1 z_zero, z_eql s2 z_zero, z_eql u1 u1, z_eql v1 z_zero, z_eql v2 z_zero, Int.sub_self, decide_true, hlen]
    rw [show rd_T80 turn 0 = turn.getD 0 z80 from rdS80 turn 0, turn_first]
    exact ev_neg (by decide) (ev_pos (by trivial) (ev_pos (by trivial) (ev_pos (by trivial) (ev_pos (by trivial) (ev_pos (by trivial) (ev_pos (by decide) (Ev.now _)))))))
  | succ d ih =>
    intro i hi
    have hs := turn_same ⟨i, by omega⟩
    have e1 : Int.tmod (i : Int) 4 = ((i % 4 : Nat) : Int) := by rw [Int.tmod_eq_emod_of_nonneg (by omega)]; omega
    refine ev_succ ?_
    simp only [laws_FnQuotient.l0, e1, rdS80, hs.1, hs.2, hlen]
    refine ev_pos (by omega) (ev_pos (by omega) (ev_pos (by omega) (ev_pos (by omega) (ev_pos (by omega) (ev_neg (by decide) (ev_succ ?_))))))
    simp only [laws_FnQuotient.j2]
    rw [w64_succ (m := 9) (n := i) (by omega) (by decide)]
    exact ev_neg (by decide) (ih (i + 1) (by omega))
theorem rdS34 (l : List S34) (n : Nat) : rd_T34 l (n : Int) = l.getD n z34 := by
  unfold rd_T34
  rw [Int.toNat_natCast]
def units_ : List S34 := [⟨cn .f64 4607182418800017408, cn .f64 0⟩, ⟨cn .f64 4611686018427387904, cn .f64 0⟩, ⟨cn .f64 0, cn .f64 4607182418800017408⟩, ⟨cn .f64 13839561654909534208, cn .f64 0⟩, ⟨cn .f64 0, cn .f64 13835058055282163712⟩, ⟨cn .f64 4607182418800017408, cn .f64 4607182418800017408⟩]
theorem unit_get (n : Nat) (h : n < 6) : ∃ b : Int × Int, Z (units_.getD n z34).f0 b.1 ∧ Z (units_.getD n z34).f1 b.2 ∧ B 4 b ∧ b.1 * b.1 + b.2 * b.2 ≠ 0 := by
  match n, h with
  | 0, _ => exact ⟨(1, 0), z_one, z_zero, ⟨by decide, by decide⟩, by decide⟩
  | 1, _ => exact ⟨(2, 0), z_two, z_zero, ⟨by decide, by decide⟩, by decide⟩
  | 2, _ => exact ⟨(0, 1), z_zero, z_one, ⟨by decide, by decide⟩, by decide⟩
  | 3, _ => exact ⟨(-4, 0), z_m4, z_zero, ⟨by decide, by decide⟩, by decide⟩
  | 4, _ => exact ⟨(0, -2), z_zero, z_m2, ⟨by decide, by decide⟩, by decide⟩
  | 5, _ => exact ⟨(1, 1), z_one, z_one, ⟨by decide, by decide⟩, by decide⟩
theorem FnQuotient : laws_FnQuotient.PureR := by
  intro l0 ⟨hm, hwf⟩
  refine Ev.rounds ?_
  unfold laws_FnQuotient.f
  by_cases hb : l0.length ≤ 1048576
  · rw [big_ev hb]
    obtain ⟨u, qu, u0, u1⟩ := at_ev hwf hb 0 (by omega) (by omega)
    obtain ⟨v, qv, v0, v1⟩ := at_ev hwf hb 1 (by omega) (by omega)
    obtain ⟨t, qt, t0, t1⟩ := at_ev hwf hb 2 (by omega) (by omega)
    have w1 : wrap64 (u - 128) = u - 128 := w64 (by omega) (by omega)
    have w2 : wrap64 (v - 128) = v - 128 := w64 (by omega) (by omega)
    have ha : B 128 (u - 128, v - 128) := ⟨by show (u - 128).natAbs ≤ 128; omega, by show (v - 128).natAbs ≤ 128; omega⟩
    have z0 : Z (fint .f64 (u - 128)) (u - 128) := z_fint (by omega)
    have z1 : Z (fint .f64 (v - 128)) (v - 128) := z_fint (by omega)
    have e1 : Int.tmod t ((units_.length : Nat) : Int) = ((t.toNat % 6 : Nat) : Int) := by
      rw [show units_.length = 6 from rfl, Int.tmod_eq_emod_of_nonneg t0]; omega
    obtain ⟨b, b0, b1, b2, b3⟩ := unit_get (t.toNat % 6) (by omega)
    have hp := z_times z0 z1 b0 b1 (z := (u - 128, v - 128)) ha b2 (by decide)
    obtain ⟨x, y, ho, hx, hy⟩ := over_ev (a := (u - 128, v - 128)) hp.1 hp.2 b0 b1 ha b2 b3
    obtain ⟨x', y', hz⟩ := over_zero (a := (u - 128, v - 128)) z0 z1
    rw [show [(⟨cn .f64 4607182418800017408, cn .f64 0⟩ : S34), ⟨cn .f64 4611686018427387904, cn .f64 0⟩, ⟨cn .f64 0, cn .f64 4607182418800017408⟩, ⟨cn .f64 13839561654909534208, cn .f64 0⟩, ⟨cn .f64 0, cn .f64 13835058055282163712⟩, ⟨cn .f64 4607182418800017408, cn .f64 4607182418800017408⟩] = units_ from rfl]
    simp only [qu, qv, qt, w1, w2, e1, rdS34, impl_CxTimes.f, Option.bind_some]
    have hl6 : units_.length = 6 := rfl
    have body : Ev (fun k => laws_FnQuotient.j0 k turn false (fint .f64 (u - 128)) (fint .f64 (v - 128)) (units_.getD (t.toNat % 6) z34).f0 (units_.getD (t.toNat % 6) z34).f1) true := by
      refine ev_succ ?_
      simp only [laws_FnQuotient.j0]
      exact ev_neg (by decide) (last_ev (a := (u - 128, v - 128)) (b := b) z0 z1 b0 b1 ha b2 9 0 (by omega))
    have hsame : impl_CxSame.f x y (fint .f64 (u - 128)) (fint .f64 (v - 128)) = some true := by
      unfold impl_CxSame.f
      rw [z_eql hx z0, z_eql hy z1, decide_eq_true rfl, decide_eq_true rfl]
      rfl
    have htl : ((turn.length : Int) != 9) = false := by decide
    refine ev_neg (by decide) ?_
    refine ev_neg (by rw [hl6]; decide) (ev_pos (by omega) (ev_pos (by rw [hl6]; omega) ?_))
    refine Ev.bind ho ?_
    refine Ev.bind hz (Ev.bind turn_ev ?_)
    dsimp only
    rw [hsame, htl]
    refine ev_pos (by trivial) (ev_neg (by decide) ?_)
    simp only [Option.bind_some]
    exact ev_pos (by trivial) (ev_pos (by trivial) body)
  · rw [big_big hb]
    simp only [Option.bind_some]
    exact ev_pos (by trivial) (Ev.now _)

end Go.Proofs.Ytfopdbdamkfglaa.Pure
