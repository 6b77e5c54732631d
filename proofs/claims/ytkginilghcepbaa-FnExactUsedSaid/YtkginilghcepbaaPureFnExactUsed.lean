/- Proved here: the program's and the reference's Used are the same function of the curve and the ranges; no condition. -/
import Derived.Test.YtkginilghcepbaaPureDefFnExactUsed
namespace Go.Proofs.Ytkginilghcepbaa.Pure
open Go.RowKit Go.Proofs.Ytkginilghcepbaa.QFnExactUsed Go.Proofs.YtkginilghcepbaaW.PrintWords Go.Proofs.YtkginilghcepbaaW.PrintLast Go.Proofs.YtkginilghcepbaaW.PrintMore
set_option linter.unusedVariables false
set_option linter.unusedSimpArgs false

theorem ev_pos {c : Prop} [Decidable c] {α : Type} {A B : Nat → Option α} {r : α} (h : c) (k : Ev A r) : Ev (fun n => if c then A n else B n) r := by
  simpa only [if_pos h] using k
theorem ev_neg {c : Prop} [Decidable c] {α : Type} {A B : Nat → Option α} {r : α} (h : ¬ c) (k : Ev B r) : Ev (fun n => if c then A n else B n) r := by
  simpa only [if_neg h] using k
theorem ev_succ {α : Type} {g : Nat → Option α} {r : α} (h : Ev (fun k => g (k + 1)) r) : Ev g r := Ev.step (fun _ => rfl) h
theorem ex_succ {α : Type} {g : Nat → Option α} (h : ∃ r, Ev (fun k => g (k + 1)) r) : ∃ r, Ev g r := by
  obtain ⟨r, h⟩ := h
  exact ⟨r, ev_succ h⟩
theorem ev_one {α : Type} {g : Nat → Option α} {r q : α} (h : Ev g r) (h' : Ev g q) : r = q := by
  obtain ⟨K, hK⟩ := h
  obtain ⟨L, hL⟩ := h'
  have a := hK (max K L) (Nat.le_max_left _ _)
  have b := hL (max K L) (Nat.le_max_right _ _)
  exact Option.some.inj (a.symm.trans b)
theorem ev_bool {α : Type} {A B : Nat → Option α} {r : α} (b : Bool) (h1 : b = true → Ev A r) (h2 : b = false → Ev B r) : Ev (fun n => if b = true then A n else B n) r := by
  cases b with
  | true => exact ev_pos (by trivial) (h1 rfl)
  | false => exact ev_neg (by decide) (h2 rfl)
theorem bool_eq_of_iff {a b : Bool} {p : Prop} (h : a = true ↔ p) (h' : b = true ↔ p) : a = b := by
  rw [Bool.eq_iff_iff]
  exact h.trans h'.symm
theorem w64 {x : Int} (h0 : -9223372036854775808 ≤ x) (h1 : x ≤ 9223372036854775807) : wrap64 x = x := by
  unfold wrap64
  omega
theorem w64_succ {n m : Nat} (h : n < m) (hm : m ≤ 9223372036854775807) : wrap64 ((n : Int) + 1) = ((n + 1 : Nat) : Int) := by
  unfold wrap64
  omega
theorem rd_nat (l : List Int) (n : Nat) : rd l (n : Int) = l.getD n 0 := by
  unfold rd
  rw [Int.toNat_natCast]
theorem take_set_succ {α : Type} (d : α) {x0 x3 : List α} {n : Nat} (h : n < x0.length) (hl : x3.length = x0.length) (ht : x3.take n = x0.take n) : (x3.set n (x0.getD n d)).take (n + 1) = x0.take (n + 1) := by
  apply List.ext_getElem?
  intro i
  simp only [List.getElem?_take, List.getElem?_set]
  by_cases hi : i < n + 1
  · rw [if_pos hi, if_pos hi]
    by_cases he : n = i
    · subst he
      rw [if_pos rfl, if_pos (by omega), List.getD_eq_getElem?_getD, List.getElem?_eq_getElem h]
      rfl
    · rw [if_neg he]
      have := congrArg (fun l => l[i]?) ht
      simpa only [List.getElem?_take, if_pos (show i < n by omega)] using this
  · rw [if_neg hi, if_neg hi]
theorem u8_bounds {l : List Int} (h : ∀ x ∈ l, 0 ≤ x ∧ x ≤ 255) (n : Nat) : 0 ≤ l.getD n 0 ∧ l.getD n 0 ≤ 255 := by
  rw [List.getD_eq_getElem?_getD]
  cases e : l[n]? with
  | none => simp
  | some x =>
    exact h x (List.mem_of_getElem? e)
theorem getD_map {α β : Type} (c : α → β) (l : List α) (n : Nat) (d : α) : (l.map c).getD n (c d) = c (l.getD n d) := by
  simp only [List.getD_eq_getElem?_getD, List.getElem?_map]
  cases l[n]? <;> rfl
/-- It ends, with true just where p holds. -/
def EvB (g : Nat → Option Bool) (p : Prop) : Prop := ∃ b, Ev g b ∧ (b = true ↔ p)
theorem EvB.iff {g : Nat → Option Bool} {p q : Prop} (h : EvB g p) (h' : p ↔ q) : EvB g q := by
  obtain ⟨b, hb, ib⟩ := h
  exact ⟨b, hb, ib.trans h'⟩
theorem EvB.dec {c : Prop} [Decidable c] : EvB (fun _ => some (decide c)) c := ⟨decide c, Ev.now _, decide_eq_true_iff⟩
theorem EvB.ite {c : Prop} [Decidable c] {A : Nat → Option Bool} {p : Prop} (h : EvB A p) : EvB (fun n => if c then A n else some false) (c ∧ p) := by
  obtain ⟨b, hb, ib⟩ := h
  by_cases hc : c
  · exact ⟨b, ev_pos hc hb, ⟨fun h => ⟨hc, ib.1 h⟩, fun h => ib.2 h.2⟩⟩
  · exact ⟨false, ev_neg hc (Ev.now _), ⟨fun h => (Bool.false_ne_true h).elim, fun h => absurd h.1 hc⟩⟩
theorem EvB.ite_not {c : Prop} [Decidable c] {A : Nat → Option Bool} {p : Prop} (h : EvB A p) : EvB (fun n => if c then some false else A n) (¬ c ∧ p) := by
  obtain ⟨b, hb, ib⟩ := h
  by_cases hc : c
  · exact ⟨false, ev_pos hc (Ev.now _), ⟨fun h => (Bool.false_ne_true h).elim, fun h => absurd hc h.1⟩⟩
  · exact ⟨b, ev_neg hc hb, ⟨fun h => ⟨hc, ib.1 h⟩, fun h => ib.2 h.2⟩⟩
theorem EvB.bind {g A : Nat → Option Bool} {p q : Prop} (h : EvB g p) (h' : EvB A q) : EvB (fun n => (g n).bind fun t => if t = true then A n else some false) (p ∧ q) := by
  obtain ⟨b, hb, ib⟩ := h
  obtain ⟨c, hc, ic⟩ := h'
  cases b with
  | true => exact ⟨c, Ev.bind hb (ev_pos rfl hc), ⟨fun h => ⟨ib.1 rfl, ic.1 h⟩, fun h => ic.2 h.2⟩⟩
  | false => exact ⟨false, Ev.bind hb (ev_neg (by decide) (Ev.now _)), ⟨fun h => (Bool.false_ne_true h).elim, fun h => absurd (ib.2 h.1) (by decide)⟩⟩
theorem EvB.last {g : Nat → Option Bool} {p : Prop} (h : EvB g p) : EvB (fun n => (g n).bind fun t => some t) p := by
  obtain ⟨b, hb, ib⟩ := h
  exact ⟨b, Ev.bind hb (Ev.now _), ib⟩
theorem EvB.same {g g' : Nat → Option Bool} {p : Prop} (h : EvB g p) (h' : EvB g' p) : ∃ b, Ev g b ∧ Ev g' b ∧ (b = true ↔ p) := by
  obtain ⟨b, hb, ib⟩ := h
  obtain ⟨c, hc, ic⟩ := h'
  obtain rfl : c = b := bool_eq_of_iff ic ib
  exact ⟨c, hb, hc, ib⟩
theorem EvB.bindE {g A B : Nat → Option Bool} {p q : Prop} (hB : Ev B false) (h : EvB g p) (h' : EvB A q) : EvB (fun n => (g n).bind fun t => if t = true then A n else B n) (p ∧ q) := by
  obtain ⟨b, hb, ib⟩ := h
  obtain ⟨c, hc, ic⟩ := h'
  cases b with
  | true => exact ⟨c, Ev.bind hb (ev_pos rfl hc), ⟨fun h => ⟨ib.1 rfl, ic.1 h⟩, fun h => ic.2 h.2⟩⟩
  | false => exact ⟨false, Ev.bind hb (ev_neg (by decide) hB), ⟨fun h => (Bool.false_ne_true h).elim, fun h => absurd (ib.2 h.1) (by decide)⟩⟩
theorem EvB.iteE {c : Prop} [Decidable c] {A B : Nat → Option Bool} {p : Prop} (hB : Ev B false) (h : EvB A p) : EvB (fun n => if c then A n else B n) (c ∧ p) := by
  obtain ⟨b, hb, ib⟩ := h
  by_cases hc : c
  · exact ⟨b, ev_pos hc hb, ⟨fun h => ⟨hc, ib.1 h⟩, fun h => ib.2 h.2⟩⟩
  · exact ⟨false, ev_neg hc hB, ⟨fun h => (Bool.false_ne_true h).elim, fun h => absurd h.1 hc⟩⟩
theorem EvB.bindN {g : Nat → Option Bool} {J : Nat → Bool → Option Bool} {p q : Prop} (hB : Ev (fun n => J n true) false) (h : EvB g p) (h' : EvB (fun n => J n false) q) : EvB (fun n => (g n).bind fun t => J n (!t)) (p ∧ q) := by
  obtain ⟨b, hb, ib⟩ := h
  obtain ⟨c, hc, ic⟩ := h'
  cases b with
  | true => exact ⟨c, Ev.bind hb hc, ⟨fun h => ⟨ib.1 rfl, ic.1 h⟩, fun h => ic.2 h.2⟩⟩
  | false => exact ⟨false, Ev.bind hb hB, ⟨fun h => (Bool.false_ne_true h).elim, fun h => absurd (ib.2 h.1) (by decide)⟩⟩
theorem EvB.succ {g : Nat → Option Bool} {p : Prop} (h : EvB (fun k => g (k + 1)) p) : EvB g p := by
  obtain ⟨b, hb, ib⟩ := h
  exact ⟨b, ev_succ hb, ib⟩
theorem EvB.true_ {p : Prop} (h : p) : EvB (fun _ => some true) p := ⟨true, Ev.now _, ⟨fun _ => h, fun _ => rfl⟩⟩
theorem EvB.false_ {p : Prop} (h : ¬ p) : EvB (fun _ => some false) p := ⟨false, Ev.now _, ⟨fun e => (Bool.false_ne_true e).elim, fun e => absurd e h⟩⟩
theorem EvB.pos {c : Prop} [Decidable c] {A B : Nat → Option Bool} {p : Prop} (hc : c) (h : EvB A p) : EvB (fun n => if c then A n else B n) p := by
  simpa only [if_pos hc] using h
theorem EvB.neg {c : Prop} [Decidable c] {A B : Nat → Option Bool} {p : Prop} (hc : ¬ c) (h : EvB B p) : EvB (fun n => if c then A n else B n) p := by
  simpa only [if_neg hc] using h

/-! division of two words by a small one (math/bits.Div64, Rem64, Mul64) -/
theorem u64w {x : Int} (h0 : 0 ≤ x) (h1 : x < 18446744073709551616) : IntKind.u64.wrap x = x := by
  rw [IntKind.wrap_u64]
  omega
theorem u64m (x : Int) : IntKind.u64.wrap x = x % 18446744073709551616 := IntKind.wrap_u64 x
theorem u64n {x : Nat} (h : x < 18446744073709551616) : IntKind.u64.wrap (x : Int) = (x : Int) := u64w (by omega) (by omega)
theorem w64n {x : Nat} (h : x ≤ 9223372036854775807) : wrap64 (x : Int) = (x : Int) := w64 (by omega) (by omega)
theorem pow_le64 {k : Nat} (h : k ≤ 63) : (2 : Nat) ^ k ≤ 9223372036854775808 := Nat.pow_le_pow_right (by decide) h
theorem bitlen_eq {y k : Nat} (h0 : 2 ^ k ≤ y) (h1 : y < 2 ^ (k + 1)) (h : y < 2 ^ 64) : Lib.bitLen y = k + 1 := by
  have e : y / 2 ^ k = 1 := by
    have hp := Nat.two_pow_pos k
    rw [Nat.pow_succ] at h1
    refine Nat.le_antisymm ?_ ?_
    · have := (Nat.div_lt_iff_lt_mul hp).2 (show y < 2 * 2 ^ k by omega)
      omega
    · exact (Nat.le_div_iff_mul_le hp).2 (by omega)
  rw [Lib.bitLen_shift k y h0 h, e]
  rfl
theorem or_add {a b s : Nat} (hb : b < 2 ^ s) (h : a * 2 ^ s + b < 18446744073709551616) : Go.bits .or .u64 ((a * 2 ^ s : Nat) : Int) (b : Int) = ((a * 2 ^ s + b : Nat) : Int) := by
  show IntKind.u64.wrap ((BitVec.ofInt 64 ((a * 2 ^ s : Nat) : Int) ||| BitVec.ofInt 64 (b : Int)).toNat : Int) = _
  have h1 : (BitVec.ofInt 64 ((a * 2 ^ s : Nat) : Int)).toNat = a * 2 ^ s := by
    rw [BitVec.ofInt_natCast, BitVec.toNat_ofNat, Nat.mod_eq_of_lt (by omega)]
  have h2 : (BitVec.ofInt 64 (b : Int)).toNat = b := by
    rw [BitVec.ofInt_natCast, BitVec.toNat_ofNat, Nat.mod_eq_of_lt (by omega)]
  rw [BitVec.toNat_or, h1, h2, Nat.mul_comm a, ← Nat.two_pow_add_eq_or_of_lt hb]
  rw [Nat.mul_comm] at h
  exact u64w (by omega) (by omega)
/-- both rounds, when the low half of the divisor is nought -/
theorem div64_loop (s yn1 un32 un1 un0 : Int) (hs : 0 ≤ s) (b0 : 0 < yn1) (b1 : yn1 < 4294967296) (c0 : 0 ≤ un32) (c1 : un32 < yn1 * 4294967296) (d0 : 0 ≤ un1) (d1 : un1 < 4294967296) (e0 : 0 ≤ un0) (e1 : un0 < 4294967296) :
    Ev (fun k => bits_Div64.l0 k (yn1 * 4294967296) s yn1 0 un32 un1 un0 (un32 / yn1) (un32 % yn1)) (un32 / yn1 * 4294967296 + (un32 % yn1 * 4294967296 + un1) / yn1, shr .u64 ((un32 % yn1 * 4294967296 + un1) % yn1 * 4294967296 + un0) s) := by
  have q1d := Int.mul_ediv_add_emod un32 yn1
  have r1n := Int.emod_nonneg un32 (show yn1 ≠ 0 by omega)
  have r1l := Int.emod_lt_of_pos un32 b0
  have q1n : 0 ≤ un32 / yn1 := Int.ediv_nonneg c0 (by omega)
  have q1l : un32 / yn1 < 4294967296 := Int.ediv_lt_of_lt_mul b0 (by omega)
  generalize un32 / yn1 = q1 at *
  generalize un32 % yn1 = r1 at *
  have u2n : 0 ≤ r1 * 4294967296 + un1 := by omega
  have u2l : r1 * 4294967296 + un1 < yn1 * 4294967296 := by omega
  have q0d := Int.mul_ediv_add_emod (r1 * 4294967296 + un1) yn1
  have r0n := Int.emod_nonneg (r1 * 4294967296 + un1) (show yn1 ≠ 0 by omega)
  have r0l := Int.emod_lt_of_pos (r1 * 4294967296 + un1) b0
  have q0n : 0 ≤ (r1 * 4294967296 + un1) / yn1 := Int.ediv_nonneg u2n (by omega)
  have q0l : (r1 * 4294967296 + un1) / yn1 < 4294967296 := Int.ediv_lt_of_lt_mul b0 (by omega)
  have y1 : q1 * (yn1 * 4294967296) = (yn1 * q1) * 4294967296 := by rw [← Int.mul_assoc, Int.mul_comm q1]
  have hu2 : IntKind.u64.wrap (IntKind.u64.wrap (IntKind.u64.wrap (un32 * 4294967296) + un1) - IntKind.u64.wrap (q1 * (yn1 * 4294967296))) = r1 * 4294967296 + un1 := by
    rw [y1]
    generalize yn1 * q1 = A at *
    simp only [u64m]
    omega
  have ht : Int.tdiv (r1 * 4294967296 + un1) yn1 = (r1 * 4294967296 + un1) / yn1 := Int.tdiv_eq_ediv_of_nonneg u2n
  generalize hq0 : (r1 * 4294967296 + un1) / yn1 = q0 at *
  generalize (r1 * 4294967296 + un1) % yn1 = r0 at *
  have y0 : q0 * (yn1 * 4294967296) = (yn1 * q0) * 4294967296 := by rw [← Int.mul_assoc, Int.mul_comm q0]
  have hrem : IntKind.u64.wrap (IntKind.u64.wrap (IntKind.u64.wrap ((r1 * 4294967296 + un1) * 4294967296) + un0) - IntKind.u64.wrap (q0 * (yn1 * 4294967296))) = r0 * 4294967296 + un0 := by
    rw [y0]
    generalize yn1 * q0 = A at *
    simp only [u64m]
    omega
  have hquo : IntKind.u64.wrap (IntKind.u64.wrap (q1 * 4294967296) + q0) = q1 * 4294967296 + q0 := by
    simp only [u64m]
    omega
  have w0 : ∀ x : Int, decide (IntKind.u64.wrap (x * 0) > IntKind.u64.wrap (IntKind.u64.wrap (4294967296 * r1) + un1)) = false := by
    intro x
    rw [Int.mul_zero]
    simp only [u64m]
    exact decide_eq_false (by omega)
  have w1 : ∀ x t : Int, decide (IntKind.u64.wrap (x * 0) > IntKind.u64.wrap (IntKind.u64.wrap (4294967296 * t) + un0)) = false := by
    intro x t
    rw [Int.mul_zero]
    simp only [u64m]
    exact decide_eq_false (by omega)
  refine ev_succ ?_
  simp only [bits_Div64.l0, w0]
  refine ev_neg (by omega) (ev_succ ?_)
  simp only [bits_Div64.j1]
  refine ev_neg (by decide) (ev_succ ?_)
  simp only [bits_Div64.j2, hu2, ht]
  rw [u64w (x := q0) q0n (by omega)]
  refine ev_neg (by omega) (ev_succ ?_)
  simp only [bits_Div64.l1, w1]
  refine ev_neg (by omega) (ev_succ ?_)
  simp only [bits_Div64.j4, hrem, hquo]
  exact ev_neg (by decide) (ev_pos hs (Ev.now _))
theorem div_core2 {N P y yn1 un32 un10 q1 r1 q0 r0 : Nat} (hp : 0 < P) (whole : N * P = un32 * 18446744073709551616 + un10) (hy : y * P = yn1 * 4294967296) (h0 : 0 < yn1) (a1 : yn1 * q1 + r1 = un32) (a3 : yn1 * q0 + r0 = r1 * 4294967296 + un10 / 4294967296) (a4 : r0 < yn1) :
    q1 * 4294967296 + q0 = N / y ∧ (r0 * 4294967296 + un10 % 4294967296) / P = N % y := by
  have e : N * P = (q1 * 4294967296 + q0) * (y * P) + (r0 * 4294967296 + un10 % 4294967296) := by
    rw [whole, hy, Nat.add_mul]
    have e1 : q1 * 4294967296 * (yn1 * 4294967296) = yn1 * q1 * 18446744073709551616 := by
      rw [show (18446744073709551616 : Nat) = 4294967296 * 4294967296 from rfl]; ac_rfl
    have e2 : q0 * (yn1 * 4294967296) = yn1 * q0 * 4294967296 := by ac_rfl
    rw [e1, e2]
    generalize yn1 * q1 = A at *
    generalize yn1 * q0 = B at *
    omega
  have hR : r0 * 4294967296 + un10 % 4294967296 < y * P := by rw [hy]; omega
  have hyP : 0 < y * P := by omega
  constructor
  · have : N * P / (y * P) = q1 * 4294967296 + q0 := by
      rw [e, Nat.mul_comm (q1 * 4294967296 + q0), Nat.mul_add_div hyP, Nat.div_eq_of_lt hR, Nat.add_zero]
    rw [← this, Nat.mul_div_mul_right _ _ hp]
  · have : N * P % (y * P) = r0 * 4294967296 + un10 % 4294967296 := by
      rw [e, Nat.mul_comm (q1 * 4294967296 + q0), Nat.mul_add_mod, Nat.mod_eq_of_lt hR]
    rw [← this, Nat.mul_mod_mul_right, Nat.mul_div_cancel _ hp]
theorem div_core {hi lo y P Q : Nat} (hP : P * Q = 18446744073709551616) (hh : hi < y) (hl : lo < 18446744073709551616) {yn1 : Nat} (hy : y * P = yn1 * 4294967296) (h0 : 0 < yn1) (h1 : yn1 < 4294967296) :
    (hi * P + lo / Q) < yn1 * 4294967296 ∧
    (hi * P + lo / Q) / yn1 * 4294967296 + ((hi * P + lo / Q) % yn1 * 4294967296 + lo * P % 18446744073709551616 / 4294967296) / yn1 = (hi * 18446744073709551616 + lo) / y ∧
    (((hi * P + lo / Q) % yn1 * 4294967296 + lo * P % 18446744073709551616 / 4294967296) % yn1 * 4294967296 + lo * P % 18446744073709551616 % 4294967296) / P = (hi * 18446744073709551616 + lo) % y := by
  have hp : 0 < P := by
    rcases Nat.eq_zero_or_pos P with h | h
    · rw [h, Nat.zero_mul] at hP; omega
    · exact h
  have hq : 0 < Q := by
    rcases Nat.eq_zero_or_pos Q with h | h
    · rw [h, Nat.mul_zero] at hP; omega
    · exact h
  have hlq : lo / Q < P := (Nat.div_lt_iff_lt_mul hq).2 (by omega)
  have hun : hi * P + lo / Q < yn1 * 4294967296 := by
    rw [← hy]
    have : (hi + 1) * P ≤ y * P := Nat.mul_le_mul_right P hh
    rw [Nat.add_mul, Nat.one_mul] at this
    omega
  refine ⟨hun, ?_⟩
  have elo : lo * P % 18446744073709551616 = lo % Q * P := by
    rw [← hP, Nat.mul_comm P Q, Nat.mul_mod_mul_right]
  have whole : (hi * 18446744073709551616 + lo) * P = (hi * P + lo / Q) * 18446744073709551616 + lo % Q * P := by
    have e := Nat.div_add_mod lo Q
    have e2 : lo * P = lo / Q * 18446744073709551616 + lo % Q * P := by
      rw [← hP]
      calc lo * P = (Q * (lo / Q) + lo % Q) * P := by rw [e]
        _ = lo / Q * (P * Q) + lo % Q * P := by rw [Nat.add_mul]; congr 1; ac_rfl
    rw [Nat.add_mul, Nat.add_mul, e2]
    have : hi * 18446744073709551616 * P = hi * P * 18446744073709551616 := by ac_rfl
    omega
  rw [elo]
  exact div_core2 hp whole hy h0 (Nat.div_add_mod _ _) (Nat.div_add_mod _ _) (Nat.mod_lt _ h0)
theorem div64_ev {hi lo y : Nat} (hy : y ≤ 1000000) (hh : hi < y) (hl : lo < 18446744073709551616) : Ev (fun k => bits_Div64.f k (hi : Int) (lo : Int) (y : Int)) ((((hi * 18446744073709551616 + lo) / y : Nat) : Int), (((hi * 18446744073709551616 + lo) % y : Nat) : Int)) := by
  unfold bits_Div64.f
  refine ev_neg (by omega) (ev_neg (by omega) ?_)
  by_cases hz : hi = 0
  · subst hz
    refine ev_pos rfl ?_
    have e1 : Int.tdiv (lo : Int) (y : Int) = ((lo / y : Nat) : Int) := rfl
    have e2 : Int.tmod (lo : Int) (y : Int) = ((lo % y : Nat) : Int) := rfl
    have hd : lo / y ≤ lo := Nat.div_le_self lo y
    rw [e1, e2, u64n (by omega), Nat.zero_mul, Nat.zero_add]
    exact Ev.now _
  refine ev_neg (by omega) ?_
  have hy0 : y ≠ 0 := by omega
  have k0 := Nat.log2_self_le hy0
  have k1 : y < 2 ^ (y.log2 + 1) := Nat.lt_log2_self
  generalize y.log2 = k at k0 k1
  have k20 : k < 20 := by
    rcases Nat.lt_or_ge k 20 with h | h
    · exact h
    · have := Nat.pow_le_pow_right (n := 2) (by decide) h
      have e : (2 : Nat) ^ 20 = 1048576 := by decide
      omega
  have h64 : (2 : Nat) ^ 64 = 18446744073709551616 := by decide
  have hb : bits_LeadingZeros64.f (y : Int) = some (((63 - k : Nat) : Int)) := by
    unfold bits_LeadingZeros64.f bits_Len64.f
    rw [if_pos (by omega), if_pos (by omega), Int.toNat_natCast, bitlen_eq k0 k1 (by omega)]
    simp only [Option.bind_some]
    rw [w64 (by omega) (by omega)]
    congr 1
    omega
  simp only [hb, Option.bind_some]
  have hP : 2 ^ (63 - k) * 2 ^ (k + 1) = 18446744073709551616 := by
    rw [← Nat.pow_add, show 63 - k + (k + 1) = 64 by omega]
  have hyP : y * 2 ^ (63 - k) = y * 2 ^ (31 - k) * 4294967296 := by
    rw [Nat.mul_assoc, show (4294967296 : Nat) = 2 ^ 32 from rfl, ← Nat.pow_add, show 31 - k + 32 = 63 - k by omega]
  have hn1 : y * 2 ^ (31 - k) < 4294967296 := by
    have := Nat.mul_lt_mul_of_pos_right k1 (Nat.two_pow_pos (31 - k))
    rw [← Nat.pow_add, show k + 1 + (31 - k) = 32 by omega] at this
    exact this
  have hn0 : 0 < y * 2 ^ (31 - k) := Nat.mul_pos (by omega) (Nat.two_pow_pos _)
  obtain ⟨c1, c2, c3⟩ := div_core hP hh hl hyP hn0 hn1
  have w1 : IntKind.u64.wrap (((63 - k : Nat) : Int)) = ((63 - k : Nat) : Int) := u64w (by omega) (by omega)
  have w2 : IntKind.u64.wrap (64 - (((63 - k : Nat) : Int))) = ((k + 1 : Nat) : Int) := by rw [u64w (by omega) (by omega)]; omega
  have hbits : IntKind.u64.bits = 64 := rfl
  have ml : ∀ x s : Nat, s ≤ 64 → shl .u64 (x : Int) (s : Int) = ((x * 2 ^ s % 18446744073709551616 : Nat) : Int) := by
    intro x s h
    unfold shl
    have e : (x : Int) * 2 ^ s = ((x * 2 ^ s : Nat) : Int) := by rw [Int.natCast_mul, Int.natCast_pow]; rfl
    rw [hbits, Int.toNat_natCast, Nat.min_eq_left h, u64m, e]
    rfl
  have mr : ∀ x s : Nat, s ≤ 64 → shr .u64 (x : Int) (s : Int) = ((x / 2 ^ s : Nat) : Int) := by
    intro x s h
    unfold shr
    have e : (2 : Int) ^ s = ((2 ^ s : Nat) : Int) := by rw [Int.natCast_pow]; rfl
    rw [hbits, Int.toNat_natCast, Nat.min_eq_left h, e]
    rfl
  have hhP : hi * 2 ^ (63 - k) < 18446744073709551616 := by
    have := Nat.le_add_right (hi * 2 ^ (63 - k)) (lo / 2 ^ (k + 1))
    omega
  have hlo : lo / 2 ^ (k + 1) < 2 ^ (63 - k) := (Nat.div_lt_iff_lt_mul (Nat.two_pow_pos _)).2 (by omega)
  have e1 : y * 2 ^ (63 - k) % 18446744073709551616 = y * 2 ^ (31 - k) * 4294967296 := by rw [hyP]; exact Nat.mod_eq_of_lt (by omega)
  have e2 : hi * 2 ^ (63 - k) % 18446744073709551616 = hi * 2 ^ (63 - k) := Nat.mod_eq_of_lt hhP
  have sh1 : shl .u64 (y : Int) ((63 - k : Nat) : Int) = ((y * 2 ^ (31 - k) : Nat) : Int) * 4294967296 := by
    rw [ml y (63 - k) (by omega), e1]
    omega
  have sh2 : shl .u64 (hi : Int) ((63 - k : Nat) : Int) = ((hi * 2 ^ (63 - k) : Nat) : Int) := by rw [ml hi (63 - k) (by omega), e2]
  have sh3 := ml lo (63 - k) (by omega)
  have sh4 := mr lo (k + 1) (by omega)
  have hor := or_add (a := hi) hlo (by omega)
  simp only [w1, w2, sh1, sh2, sh3, sh4, hor]
  have d1 : ((y * 2 ^ (31 - k) : Nat) : Int) * 4294967296 / 4294967296 = ((y * 2 ^ (31 - k) : Nat) : Int) := Int.mul_ediv_cancel _ (by decide)
  have d2 : Go.bits .and .u64 (((y * 2 ^ (31 - k) : Nat) : Int) * 4294967296) 4294967295 = 0 := by rw [and_low32 _ (by omega) (by omega)]; omega
  have d3 : Go.bits .and .u64 ((lo * 2 ^ (63 - k) % 18446744073709551616 : Nat) : Int) 4294967295 = ((lo * 2 ^ (63 - k) % 18446744073709551616 % 4294967296 : Nat) : Int) := by rw [and_low32 _ (by omega) (by omega)]; omega
  have d4 : ((lo * 2 ^ (63 - k) % 18446744073709551616 : Nat) : Int) / 4294967296 = ((lo * 2 ^ (63 - k) % 18446744073709551616 / 4294967296 : Nat) : Int) := by omega
  simp only [d1, d2, d3, d4]
  generalize hi * 2 ^ (63 - k) + lo / 2 ^ (k + 1) = un32 at *
  generalize y * 2 ^ (31 - k) = yn1 at *
  have hu10 : lo * 2 ^ (63 - k) % 18446744073709551616 < 18446744073709551616 := Nat.mod_lt _ (by decide)
  generalize lo * 2 ^ (63 - k) % 18446744073709551616 = un10 at *
  have t1 : Int.tdiv (un32 : Int) (yn1 : Int) = (un32 : Int) / (yn1 : Int) := Int.tdiv_eq_ediv_of_nonneg (by omega)
  have hq : un32 / yn1 ≤ un32 := Nat.div_le_self _ _
  have hq' : (un32 : Int) / (yn1 : Int) = ((un32 / yn1 : Nat) : Int) := rfl
  have t2 : IntKind.u64.wrap ((un32 : Int) / (yn1 : Int)) = (un32 : Int) / (yn1 : Int) := by rw [hq']; exact u64w (by omega) (by omega)
  have t3 : IntKind.u64.wrap ((un32 : Int) - IntKind.u64.wrap ((un32 : Int) / (yn1 : Int) * (yn1 : Int))) = (un32 : Int) % (yn1 : Int) := by
    have a := Int.mul_ediv_add_emod (un32 : Int) (yn1 : Int)
    have a2 := Int.emod_nonneg (un32 : Int) (show (yn1 : Int) ≠ 0 by omega)
    have a3 := Int.emod_lt_of_pos (un32 : Int) (show 0 < (yn1 : Int) by omega)
    have a4 : 0 ≤ (un32 : Int) / (yn1 : Int) * (yn1 : Int) := Int.mul_nonneg (Int.ediv_nonneg (by omega) (by omega)) (by omega)
    rw [Int.mul_comm] at a
    rw [u64w (x := (un32 : Int) / (yn1 : Int) * (yn1 : Int)) (by omega) (by omega), u64w (by omega) (by omega)]
    omega
  simp only [t1, t2, t3]
  have main := div64_loop ((63 - k : Nat) : Int) (yn1 : Int) (un32 : Int) ((un10 / 4294967296 : Nat) : Int) ((un10 % 4294967296 : Nat) : Int) (by omega) (by omega) (by omega) (by omega) (by omega) (by omega) (by omega) (by omega) (by omega)
  have r1 : (un32 : Int) / (yn1 : Int) * 4294967296 + ((un32 : Int) % (yn1 : Int) * 4294967296 + ((un10 / 4294967296 : Nat) : Int)) / (yn1 : Int) = (((hi * 18446744073709551616 + lo) / y : Nat) : Int) := by
    rw [← c2]
    rfl
  have r2 : shr .u64 (((un32 : Int) % (yn1 : Int) * 4294967296 + ((un10 / 4294967296 : Nat) : Int)) % (yn1 : Int) * 4294967296 + ((un10 % 4294967296 : Nat) : Int)) ((63 - k : Nat) : Int) = (((hi * 18446744073709551616 + lo) % y : Nat) : Int) := by
    rw [← c3, ← mr _ _ (by omega)]
    rfl
  rw [r1, r2] at main
  exact ev_pos (by omega) (ev_pos (by omega) (ev_neg (by omega) main))
theorem rem64_ev {hi lo y : Nat} (hy : y ≤ 1000000) (h0 : 0 < y) (hl : lo < 18446744073709551616) : Ev (fun k => bits_Rem64.f k (hi : Int) (lo : Int) (y : Int)) (((hi * 18446744073709551616 + lo) % y : Nat) : Int) := by
  unfold bits_Rem64.f
  have e : Int.tmod (hi : Int) (y : Int) = ((hi % y : Nat) : Int) := rfl
  rw [e]
  have h := div64_ev (lo := lo) hy (Nat.mod_lt hi h0) hl
  have e2 : (hi % y * 18446744073709551616 + lo) % y = (hi * 18446744073709551616 + lo) % y := by
    rw [Nat.add_mod, Nat.mul_mod, Nat.mod_mod, ← Nat.mul_mod, ← Nat.add_mod]
  rw [e2] at h
  exact ev_neg (by omega) (Ev.bind h (Ev.now _))
theorem mul64_eq {x y : Nat} (hx : x < 18446744073709551616) (hy : y < 18446744073709551616) : bits_Mul64.f (x : Int) (y : Int) = some (((x * y / 18446744073709551616 : Nat) : Int), ((x * y % 18446744073709551616 : Nat) : Int)) := by
  have h := mul64_arith (x : Int) (y : Int) (by omega) (by omega) (by omega) (by omega)
  unfold bits_Mul64.f
  rw [and_low32 (x : Int) (by omega) (by omega), and_low32 (y : Int) (by omega) (by omega)]
  rw [and_low32 _ (by simp only [u64m]; omega) (by simp only [u64m]; omega)]
  simp only [u64m]
  rw [h, ← Int.natCast_mul]
  rfl

theorem tmod_nat (a b : Nat) : Int.tmod (a : Int) (b : Int) = ((a % b : Nat) : Int) := rfl
theorem impl_gcd_loop : ∀ (m : Nat) (a b : Int), b.natAbs = m → a.natAbs ≤ 9223372036854775807 → b.natAbs ≤ 9223372036854775807 → Ev (fun k => impl_gcd.l0 k a b) ((Nat.gcd a.natAbs b.natAbs : Nat) : Int) := by
  intro m
  induction m using Nat.strongRecOn with
  | _ m ih =>
    intro a b hm ha hb
    refine ev_succ ?_
    simp only [impl_gcd.l0, impl_size.f, Option.bind_some]
    by_cases h0 : b = 0
    · subst h0
      rw [Int.natAbs_zero, Nat.gcd_zero_right]
      have e : mx a (wrap64 (-a)) = (a.natAbs : Int) := by
        rw [w64 (by omega) (by omega)]
        unfold mx
        split <;> omega
      rw [e]
      exact ev_pos (by trivial) (Ev.now _)
    · have e : (Int.tmod a b).natAbs = a.natAbs % b.natAbs := Int.natAbs_tmod a b
      have hlt : a.natAbs % b.natAbs < b.natAbs := Nat.mod_lt _ (by omega)
      have := ih (Int.tmod a b).natAbs (by omega) b (Int.tmod a b) rfl hb (by omega)
      rw [e] at this
      rw [Nat.gcd_comm a.natAbs b.natAbs, Nat.gcd_rec b.natAbs a.natAbs, Nat.gcd_comm]
      exact ev_neg h0 this

def AllIn (l : List Int) (lo hi : Int) : Prop := ∀ n, n < l.length → lo ≤ l.getD n 0 ∧ l.getD n 0 ≤ hi
def Rise (l : List Int) : Prop := ∀ n, n + 1 < l.length → l.getD n 0 < l.getD (n + 1) 0

theorem impl_in_eq (a b c : Int) : impl_in.f a b c = some (decide (b ≤ a ∧ a ≤ c)) := by
  unfold impl_in.f
  split
  · congr 1
    rw [decide_eq_decide]
    omega
  · congr 1
    symm
    rw [decide_eq_false_iff_not]
    omega
theorem impl_in_evB (a b c : Int) : EvB (fun _ => impl_in.f a b c) (b ≤ a ∧ a ≤ c) := by
  rw [impl_in_eq]
  exact EvB.dec

theorem impl_all_loop (l : List Int) (lo hi : Int) (hx : l.length ≤ 9223372036854775807) : ∀ (d n : Nat), n + d = l.length → (∀ m, m < n → lo ≤ l.getD m 0 ∧ l.getD m 0 ≤ hi) → ∃ b, Ev (fun k => impl_allIn.l0 k lo hi l (l.length : Int) (n : Int)) b ∧ (b = true ↔ AllIn l lo hi) := by
  intro d
  induction d with
  | zero =>
    intro n hn hm
    refine ⟨true, ?_, ⟨fun _ m h => hm m (by omega), fun _ => rfl⟩⟩
    refine ev_succ ?_
    simp only [impl_allIn.l0]
    exact ev_neg (by omega) (Ev.now _)
  | succ d ih =>
    intro n hn hm
    by_cases h : lo ≤ l.getD n 0 ∧ l.getD n 0 ≤ hi
    · obtain ⟨b, hb, hiff⟩ := ih (n + 1) (by omega) (fun m hm' => by
        by_cases e : m = n
        · subst e; exact h
        · exact hm m (by omega))
      refine ⟨b, ?_, hiff⟩
      refine ev_succ ?_
      simp only [impl_allIn.l0, impl_in_eq, Option.bind_some]
      refine ev_pos (by omega) (ev_pos (by omega) (ev_pos (by omega) (ev_pos (by rw [rd_nat]; simpa using h) ?_)))
      rw [w64_succ (m := l.length) (by omega) hx]
      exact hb
    · refine ⟨false, ?_, ⟨fun h' => (Bool.false_ne_true h').elim, fun h' => absurd (h' n (by omega)) h⟩⟩
      refine ev_succ ?_
      simp only [impl_allIn.l0, impl_in_eq, Option.bind_some]
      exact ev_pos (by omega) (ev_pos (by omega) (ev_pos (by omega) (ev_neg (by rw [rd_nat]; simpa using h) (Ev.now _))))
theorem impl_all_ev (l : List Int) (lo hi : Int) (hx : l.length ≤ 9223372036854775807) : ∃ b, Ev (fun k => impl_allIn.f k l lo hi) b ∧ (b = true ↔ AllIn l lo hi) := by
  unfold impl_allIn.f
  exact impl_all_loop l lo hi hx l.length 0 (by omega) (fun m h => by omega)

def pN (n d b : Nat) : Nat := n * (b / Nat.gcd d b) + d / Nat.gcd d b
def pT (n d b : Nat) : Nat := Nat.gcd (pN n d b) (Nat.gcd d b)
def pD (n d b : Nat) : Nat := d / pT n d b * (b / Nat.gcd d b)
/-- a fraction and 1 by b together, in lowest terms -/
def plus (n d b : Nat) : Int × Int × Bool := if pN n d b / pT n d b ≤ 1000000000000000 ∧ pD n d b ≤ 1000000000000000 then (((pN n d b / pT n d b : Nat) : Int), ((pD n d b : Nat) : Int), true) else (0, 0, false)
theorem plus_bad {n d b : Nat} (h : ¬ (pN n d b / pT n d b ≤ 1000000000000000 ∧ pD n d b ≤ 1000000000000000)) : plus n d b = (0, 0, false) := if_neg h
theorem gcd_cast (a b : Nat) : Nat.gcd (a : Int).natAbs (b : Int).natAbs = Nat.gcd a b := by rw [Int.natAbs_natCast, Int.natAbs_natCast]
theorem gcd_ev (a b : Nat) (ha : a ≤ 9223372036854775807) (hb : b ≤ 9223372036854775807) : Ev (fun k => impl_gcd.f k (a : Int) (b : Int)) ((Nat.gcd a b : Nat) : Int) := by
  unfold impl_gcd.f
  have h := impl_gcd_loop b (a : Int) (b : Int) (Int.natAbs_natCast b) (by omega) (by omega)
  rw [gcd_cast] at h
  exact h
theorem add64_eq (a c : Nat) : add64s (a : Int) (c : Int) = (((a + c) % 18446744073709551616 : Nat) : Int) ∧ add64c (a : Int) (c : Int) = (((a + c) / 18446744073709551616 : Nat) : Int) := by
  unfold add64s add64c
  rw [Int.toNat_natCast, Int.toNat_natCast]
  exact ⟨rfl, rfl⟩
theorem carry_hi (a c : Nat) : a / 18446744073709551616 + (a % 18446744073709551616 + c) / 18446744073709551616 = (a + c) / 18446744073709551616 := by omega
theorem carry_lo (a c : Nat) : (a % 18446744073709551616 + c) % 18446744073709551616 = (a + c) % 18446744073709551616 := by omega
theorem hi_lo (a : Nat) : a / 18446744073709551616 * 18446744073709551616 + a % 18446744073709551616 = a := by omega
theorem quo_nat (a b : Nat) : Int.tdiv (a : Int) (b : Int) = ((a / b : Nat) : Int) := rfl
structure PB (n d b : Nat) : Prop where
  hn : n ≤ 1000000000000000
  hd : 1 ≤ d ∧ d ≤ 1000000000000000
  hb : 1 ≤ b ∧ b ≤ 1000000
theorem pb_gcd {n d b : Nat} (h : PB n d b) : 1 ≤ Nat.gcd d b ∧ Nat.gcd d b ≤ 1000000 ∧ 1 ≤ b / Nat.gcd d b ∧ b / Nat.gcd d b ≤ 1000000 ∧ 1 ≤ d / Nat.gcd d b ∧ d / Nat.gcd d b ≤ 1000000000000000 := by
  have hb := h.hb
  have hd := h.hd
  have g0 : 0 < Nat.gcd d b := Nat.gcd_pos_of_pos_right d (by omega)
  have g1 : Nat.gcd d b ≤ b := Nat.gcd_le_right d (by omega)
  have g2 : Nat.gcd d b ≤ d := Nat.gcd_le_left b (by omega)
  have u1 : 0 < b / Nat.gcd d b := Nat.div_pos g1 g0
  have u2 : b / Nat.gcd d b ≤ b := Nat.div_le_self _ _
  have u3 : 0 < d / Nat.gcd d b := Nat.div_pos g2 g0
  have u4 : d / Nat.gcd d b ≤ d := Nat.div_le_self _ _
  omega
theorem pb_pt {n d b : Nat} (h : PB n d b) : 1 ≤ pT n d b ∧ pT n d b ≤ Nat.gcd d b ∧ pT n d b ∣ pN n d b ∧ pT n d b ∣ d ∧ pT n d b ∣ b := by
  have g := pb_gcd h
  have t0 : 0 < pT n d b := Nat.gcd_pos_of_pos_right _ (by omega)
  have t1 : pT n d b ∣ Nat.gcd d b := Nat.gcd_dvd_right _ _
  exact ⟨t0, Nat.le_of_dvd (by omega) t1, Nat.gcd_dvd_left _ _, Nat.dvd_trans t1 (Nat.gcd_dvd_left d b), Nat.dvd_trans t1 (Nat.gcd_dvd_right d b)⟩
theorem pb_N {n d b : Nat} (h : PB n d b) : pN n d b < 2000000000000000000000 := by
  have g := pb_gcd h
  have hn := h.hn
  have m : n * (b / Nat.gcd d b) ≤ 1000000000000000 * 1000000 := Nat.mul_le_mul hn (by omega)
  unfold pN
  omega
theorem addpart_ev {n d b : Nat} (h : PB n d b) : Ev (fun k => impl_addPart.f k (n : Int) (d : Int) (b : Int)) (plus n d b) := by
  have hn := h.hn
  have hd := h.hd
  have hb := h.hb
  obtain ⟨g0, g1, u0, u1, w0, w1⟩ := pb_gcd h
  obtain ⟨t0, t1, _⟩ := pb_pt h
  have hN := pb_N h
  have hg := gcd_ev d b (by omega) (by omega)
  unfold impl_addPart.f
  refine Ev.bind hg (ev_neg (by omega) ?_)
  have hmod : Nat.gcd (pN n d b % Nat.gcd d b) (Nat.gcd d b) = pT n d b := by
    unfold pT
    rw [← Nat.gcd_rec, Nat.gcd_comm]
  have hmul := mul64_eq (x := n) (y := b / Nat.gcd d b) (by omega) (by omega)
  have eup : wrap64 (Int.tdiv (b : Int) ((Nat.gcd d b : Nat) : Int)) = ((b / Nat.gcd d b : Nat) : Int) := by rw [quo_nat]; exact w64n (by omega)
  have edn : wrap64 (Int.tdiv (d : Int) ((Nat.gcd d b : Nat) : Int)) = ((d / Nat.gcd d b : Nat) : Int) := by rw [quo_nat]; exact w64n (by omega)
  have c0 : ∀ x : Nat, x < 18446744073709551616 → IntKind.u64.wrap (x : Int) = (x : Int) := fun x hx => u64w (by omega) (by omega)
  have hmod2 : pN n d b % Nat.gcd d b < Nat.gcd d b := Nat.mod_lt _ (by omega)
  have hgt := gcd_ev (pN n d b % Nat.gcd d b) (Nat.gcd d b) (by omega) (by omega)
  rw [hmod] at hgt
  have hrem := rem64_ev (hi := pN n d b / 18446744073709551616) (lo := pN n d b % 18446744073709551616) (y := Nat.gcd d b) g1 (by omega) (Nat.mod_lt _ (by decide))
  rw [hi_lo] at hrem
  have hND : ∀ x : Nat, x = n * (b / Nat.gcd d b) → x + d / Nat.gcd d b = pN n d b := by intro x hx; rw [hx]; rfl
  simp only [eup, edn, c0 n (Nat.lt_of_le_of_lt hn (by decide)), c0 _ (Nat.lt_of_le_of_lt u1 (by decide)), c0 _ (Nat.lt_of_le_of_lt w1 (by decide)), c0 _ (Nat.lt_of_le_of_lt g1 (by decide)), hmul, Option.bind_some, add64_eq, carry_lo]
  rw [hND _ rfl]
  have ehi : IntKind.u64.wrap (((n * (b / Nat.gcd d b) / 18446744073709551616 : Nat) : Int) + (((n * (b / Nat.gcd d b) % 18446744073709551616 + d / Nat.gcd d b) / 18446744073709551616 : Nat) : Int)) = ((pN n d b / 18446744073709551616 : Nat) : Int) := by
    rw [← Int.natCast_add, carry_hi, hND _ rfl]
    exact c0 _ (by omega)
  simp only [ehi]
  have ew : wrap64 (((pN n d b % Nat.gcd d b : Nat) : Int)) = ((pN n d b % Nat.gcd d b : Nat) : Int) := w64 (by omega) (by omega)
  refine Ev.bind hrem ?_
  simp only [ew]
  refine Ev.bind hgt ?_
  simp only [c0 _ (show pT n d b < 18446744073709551616 by omega)]
  by_cases hov : pT n d b ≤ pN n d b / 18446744073709551616
  · rw [plus_bad]
    · exact ev_pos (by omega) (Ev.now _)
    · intro hc
      have h1 : pT n d b * 18446744073709551616 ≤ pN n d b := by
        have := Nat.mul_le_mul_right 18446744073709551616 hov
        omega
      have h2 : 18446744073709551616 ≤ pN n d b / pT n d b := (Nat.le_div_iff_mul_le (by omega)).2 (by rw [Nat.mul_comm]; exact h1)
      omega
  have hdiv := div64_ev (hi := pN n d b / 18446744073709551616) (lo := pN n d b % 18446744073709551616) (y := pT n d b) (by omega) (by omega) (Nat.mod_lt _ (by decide))
  rw [hi_lo] at hdiv
  refine ev_neg (by omega) (Ev.bind hdiv (ev_neg (by omega) ?_))
  have hdt : d / pT n d b ≤ d := Nat.div_le_self _ _
  have hm2 := mul64_eq (x := d / pT n d b) (y := b / Nat.gcd d b) (Nat.lt_of_le_of_lt (Nat.le_trans hdt hd.2) (by decide)) (Nat.lt_of_le_of_lt u1 (by decide))
  simp only [c0 d (Nat.lt_of_le_of_lt hd.2 (by decide)), quo_nat, c0 _ (Nat.lt_of_le_of_lt (Nat.le_trans hdt hd.2) (show 1000000000000000 < 18446744073709551616 by decide)), hm2, Option.bind_some]
  have epd : d / pT n d b * (b / Nat.gcd d b) = pD n d b := by unfold pD; rfl
  rw [epd]
  by_cases h1 : 18446744073709551616 ≤ pD n d b
  · rw [plus_bad (by omega)]
    exact ev_pos (by have : 0 < pD n d b / 18446744073709551616 := Nat.div_pos h1 (by decide)
                     omega) (Ev.now _)
  have e1 : pD n d b / 18446744073709551616 = 0 := Nat.div_eq_of_lt (by omega)
  have e2 : pD n d b % 18446744073709551616 = pD n d b := Nat.mod_eq_of_lt (by omega)
  rw [e1, e2]
  refine ev_neg (by decide) ?_
  by_cases h2 : pN n d b / pT n d b ≤ 1000000000000000
  rotate_left
  · rw [plus_bad (by omega)]
    exact ev_pos (by omega) (Ev.now _)
  refine ev_neg (by omega) ?_
  by_cases h3 : pD n d b ≤ 1000000000000000
  rotate_left
  · rw [plus_bad (by omega)]
    exact ev_pos (by omega) (Ev.now _)
  refine ev_neg (by omega) ?_
  rw [show plus n d b = _ from if_pos ⟨h2, h3⟩, w64n (by omega), w64n (by omega)]
  exact Ev.now _
theorem plus_ok {n d b : Nat} (h : PB n d b) (hp : (plus n d b).2.2 = true) : ∃ n' d' : Nat, plus n d b = ((n' : Int), (d' : Int), true) ∧ n' ≤ 1000000000000000 ∧ 1 ≤ d' ∧ d' ≤ 1000000000000000 := by
  by_cases hc : pN n d b / pT n d b ≤ 1000000000000000 ∧ pD n d b ≤ 1000000000000000
  · obtain ⟨g0, g1, u0, u1, w0, w1⟩ := pb_gcd h
    obtain ⟨t0, t1, t2, t3, t4⟩ := pb_pt h
    have hd := h.hd
    have d1 : 0 < d / pT n d b := Nat.div_pos (Nat.le_of_dvd (by omega) t3) (by omega)
    exact ⟨_, _, if_pos hc, hc.1, Nat.mul_pos d1 (by omega), hc.2⟩
  · rw [plus_bad hc] at hp
    cases hp
/-! the curve -/
theorem rdS_nat (l : List S101) (n : Nat) : rd_T101 l (n : Int) = l.getD n z101 := by
  unfold rd_T101
  rw [Int.toNat_natCast]
def OkAt (l : List S101) (m : Nat) : Prop := (1 ≤ (l.getD m z101).f1 ∧ (l.getD m z101).f1 ≤ 1000000) ∧ (0 < m → (l.getD (m - 1) z101).f0 < (l.getD m z101).f0)
def CurveOk (l : List S101) : Prop := (∀ m, m < l.length → OkAt l m) ∧ l.length ≤ 20
def cyF (x : Int) (c : Int) (s : S101) : Int := if s.f0 ≤ x then s.f1 else c
/-- the cycles for a range: those of the last step that is not above it -/
def cyc (l : List S101) (x : Int) : Int := l.foldl (cyF x) 0
theorem take_fold (l : List S101) (x : Int) {j : Nat} (h : j < l.length) : (l.take (j + 1)).foldl (cyF x) 0 = cyF x ((l.take j).foldl (cyF x) 0) (l.getD j z101) := by
  rw [List.take_succ_eq_append_getElem h, List.foldl_append, List.getD_eq_getElem?_getD, List.getElem?_eq_getElem h]
  rfl
theorem first_over (l : List S101) (x : Int) : ∀ n, n ≤ l.length → ∃ m, m ≤ n ∧ (∀ j, j < m → (l.getD j z101).f0 ≤ x) ∧ (m < n → x < (l.getD m z101).f0) := by
  intro n
  induction n with
  | zero => intro _; exact ⟨0, by omega, fun j h => by omega, fun h => by omega⟩
  | succ n ih =>
    intro hn
    obtain ⟨m, h0, h1, h2⟩ := ih (by omega)
    by_cases hm : m < n
    · exact ⟨m, by omega, h1, fun _ => h2 hm⟩
    · by_cases hx : (l.getD n z101).f0 ≤ x
      · refine ⟨n + 1, by omega, fun j hj => ?_, fun h => by omega⟩
        by_cases e : j = n
        · rw [e]; exact hx
        · exact h1 j (by omega)
      · obtain rfl : m = n := by omega
        exact ⟨m, by omega, h1, fun _ => by omega⟩
theorem rising {l : List S101} (hc : CurveOk l) (m : Nat) : ∀ d, m + d < l.length → (l.getD m z101).f0 ≤ (l.getD (m + d) z101).f0 := by
  intro d
  induction d with
  | zero => intro _; exact Int.le_refl _
  | succ d ih =>
    intro h
    have h1 := ih (by omega)
    have h2 := (hc.1 (m + d + 1) (by omega)).2 (by omega)
    rw [show m + d + 1 - 1 = m + d by omega] at h2
    rw [show m + (d + 1) = m + d + 1 by omega]
    omega
theorem place {l : List S101} (hc : CurveOk l) (x : Int) : ∃ m, m ≤ l.length ∧ (∀ j, j < m → (l.getD j z101).f0 ≤ x) ∧ (∀ j, m ≤ j → j < l.length → x < (l.getD j z101).f0) ∧ cyc l x = if m = 0 then 0 else (l.getD (m - 1) z101).f1 := by
  obtain ⟨m, h0, h1, h2⟩ := first_over l x l.length (Nat.le_refl _)
  have h3 : ∀ j, m ≤ j → j < l.length → x < (l.getD j z101).f0 := by
    intro j hj hl
    have := rising hc m (j - m) (by omega)
    rw [show m + (j - m) = j by omega] at this
    have := h2 (by omega)
    omega
  refine ⟨m, h0, h1, h3, ?_⟩
  have key : ∀ j, j ≤ l.length → (l.take j).foldl (cyF x) 0 = if min j m = 0 then 0 else (l.getD (min j m - 1) z101).f1 := by
    intro j
    induction j with
    | zero => intro _; rw [Nat.zero_min]; rfl
    | succ j ih =>
      intro hj
      rw [take_fold l x (by omega)]
      unfold cyF
      by_cases hm : j < m
      · rw [if_pos (h1 j hm), show min (j + 1) m = j + 1 by omega, if_neg (by omega), show j + 1 - 1 = j by omega]
      · have h4 := h3 j (by omega) (by omega)
        rw [if_neg (by omega)]
        have h5 := ih (by omega)
        rw [show min (j + 1) m = m by omega]
        rw [show min j m = m by omega] at h5
        exact h5
  have := key l.length (Nat.le_refl _)
  rw [List.take_length, show min l.length m = m by omega] at this
  exact this
theorem cyc_bd {l : List S101} (hc : CurveOk l) (x : Int) (h : cyc l x ≠ 0) : 1 ≤ cyc l x ∧ cyc l x ≤ 1000000 := by
  obtain ⟨m, h0, _, _, e⟩ := place hc x
  by_cases hm : m = 0
  · rw [if_pos hm] at e
    exact absurd e h
  · rw [if_neg hm] at e
    rw [e]
    exact (hc.1 (m - 1) (by omega)).1
/-- what is used, range by range -/
def usd (l : List S101) : List Int → Nat → Nat → Int × Int × Bool
  | [], n, d => ((n : Int), (d : Int), true)
  | x :: rs, n, d => if cyc l x = 0 then usd l rs n d else (if (plus n d (cyc l x).toNat).2.2 = true then usd l rs (plus n d (cyc l x).toNat).1.toNat (plus n d (cyc l x).toNat).2.1.toNat else (0, 0, false))
theorem drop_int {l : List Int} {n : Nat} (h : n < l.length) : l.drop n = l.getD n 0 :: l.drop (n + 1) := by
  rw [List.drop_eq_getElem_cons h, List.getD_eq_getElem?_getD, List.getElem?_eq_getElem h]
  rfl
theorem impl_find {l : List S101} (hl : l.length ≤ 1000) (x : Int) {m : Nat} (h0 : m ≤ l.length) (h1 : ∀ j, j < m → (l.getD j z101).f0 ≤ x) (h2 : ∀ j, m ≤ j → j < l.length → x < (l.getD j z101).f0) (rs : List Int) (N i n d : Int) (r : Int × Int × Bool) (hr : Ev (fun k => impl_Used.j3 k l ((m : Int) - 1) rs N i n d) r) :
    ∀ (dd j : Nat), j + dd = m → Ev (fun k => impl_Used.l1 k l x ((j : Int) - 1) rs N i n d) r := by
  intro dd
  induction dd with
  | zero =>
    intro j hj
    obtain rfl : j = m := by omega
    have hw : wrap64 ((j : Int) - 1 + 1) = (j : Int) := by rw [w64 (by omega) (by omega)]; omega
    refine ev_succ ?_
    simp only [impl_Used.l1, hw, rdS_nat]
    by_cases hlt : j < l.length
    · have := h2 j (Nat.le_refl _) hlt
      exact ev_pos (by omega) (ev_pos (by omega) (ev_neg (by omega) hr))
    · exact ev_neg (by omega) hr
  | succ dd ih =>
    intro j hj
    have hw : wrap64 ((j : Int) - 1 + 1) = (j : Int) := by rw [w64 (by omega) (by omega)]; omega
    have h3 := ih (j + 1) (by omega)
    rw [show (((j + 1 : Nat) : Int) - 1) = (j : Int) by omega] at h3
    refine ev_succ ?_
    simp only [impl_Used.l1, hw, rdS_nat]
    exact ev_pos (by omega) (ev_pos (by omega) (ev_pos (h1 j (by omega)) h3))
theorem impl_used_loop {l : List S101} (hc : CurveOk l) (rs : List Int) (hr : rs.length ≤ 40) : ∀ (dd i n d : Nat), i + dd = rs.length → n ≤ 1000000000000000 → 1 ≤ d → d ≤ 1000000000000000 → Ev (fun k => impl_Used.l0 k l rs (rs.length : Int) (i : Int) (n : Int) (d : Int)) (usd l (rs.drop i) n d) := by
  have hl := hc.2
  intro dd
  induction dd with
  | zero =>
    intro i n d hi hn hd hd2
    rw [List.drop_of_length_le (by omega)]
    refine ev_succ ?_
    simp only [impl_Used.l0, usd]
    exact ev_neg (by omega) (Ev.now _)
  | succ dd ih =>
    intro i n d hi hn hd hd2
    have hw := w64_succ (n := i) (m := rs.length) (by omega) (by omega)
    obtain ⟨m, h0, h1, h2, e⟩ := place hc (rs.getD i 0)
    rw [drop_int (by omega)]
    simp only [usd]
    refine ev_succ ?_
    simp only [impl_Used.l0]
    refine ev_pos (by omega) (ev_pos (by omega) (ev_pos (by omega) ?_))
    rw [rd_nat]
    refine impl_find (by omega) (rs.getD i 0) h0 h1 h2 rs _ _ _ _ _ ?_ m 0 (by omega)
    refine ev_succ ?_
    simp only [impl_Used.j3, hw]
    by_cases hm : m = 0
    · rw [if_pos hm] at e
      rw [if_pos e]
      exact ev_pos (by omega) (ih (i + 1) n d (by omega) hn hd hd2)
    · rw [if_neg hm] at e
      have ok := (hc.1 (m - 1) (by omega)).1
      rw [show ((m : Int) - 1) = ((m - 1 : Nat) : Int) by omega, rdS_nat, ← e]
      rw [← e] at ok
      rw [if_neg (by omega)]
      have pb : PB n d (cyc l (rs.getD i 0)).toNat := ⟨hn, ⟨hd, hd2⟩, by omega⟩
      have ha := addpart_ev pb
      rw [Int.toNat_of_nonneg (by omega)] at ha
      refine ev_neg (by omega) (ev_pos (by omega) (ev_pos (by omega) (Ev.bind ha ?_)))
      by_cases hp : (plus n d (cyc l (rs.getD i 0)).toNat).2.2 = true
      · obtain ⟨n', d', q, q1, q2, q3⟩ := plus_ok pb hp
        rw [if_pos hp]
        refine ev_pos hp ?_
        rw [q]
        simp only [Int.toNat_natCast]
        exact ih (i + 1) n' d' (by omega) q1 q2 q3
      · rw [if_neg hp]
        exact ev_neg hp (Ev.now _)

theorem spec_in_eq (a b c : Int) : spec_l1In.f a b c = some (decide (b ≤ a ∧ a ≤ c)) := by
  unfold spec_l1In.f
  split
  · congr 1
    rw [decide_eq_decide]
    omega
  · congr 1
    symm
    rw [decide_eq_false_iff_not]
    omega
theorem spec_in_evB (a b c : Int) : EvB (fun _ => spec_l1In.f a b c) (b ≤ a ∧ a ≤ c) := by
  rw [spec_in_eq]
  exact EvB.dec

theorem spec_all_loop (l : List Int) (lo hi : Int) (hx : l.length ≤ 9223372036854775807) : ∀ (d n : Nat), n + d = l.length → (∀ m, m < n → lo ≤ l.getD m 0 ∧ l.getD m 0 ≤ hi) → ∃ b, Ev (fun k => spec_l1All.l0 k l lo hi (n : Int)) b ∧ (b = true ↔ AllIn l lo hi) := by
  intro d
  induction d with
  | zero =>
    intro n hn hm
    refine ⟨true, ?_, ⟨fun _ m h => hm m (by omega), fun _ => rfl⟩⟩
    refine ev_succ ?_
    simp only [spec_l1All.l0]
    exact ev_neg (by omega) (Ev.now _)
  | succ d ih =>
    intro n hn hm
    by_cases h : lo ≤ l.getD n 0 ∧ l.getD n 0 ≤ hi
    · obtain ⟨b, hb, hiff⟩ := ih (n + 1) (by omega) (fun m hm' => by
        by_cases e : m = n
        · subst e; exact h
        · exact hm m (by omega))
      refine ⟨b, ?_, hiff⟩
      refine ev_succ ?_
      simp only [spec_l1All.l0, spec_in_eq, Option.bind_some]
      refine ev_pos (by omega) (ev_pos (by omega) (ev_pos (by rw [rd_nat]; simpa using h) ?_))
      rw [w64_succ (m := l.length) (by omega) hx]
      exact hb
    · refine ⟨false, ?_, ⟨fun h' => (Bool.false_ne_true h').elim, fun h' => absurd (h' n (by omega)) h⟩⟩
      refine ev_succ ?_
      simp only [spec_l1All.l0, spec_in_eq, Option.bind_some]
      exact ev_pos (by omega) (ev_pos (by omega) (ev_neg (by rw [rd_nat]; simpa using h) (Ev.now _)))
theorem spec_all_ev (l : List Int) (lo hi : Int) (hx : l.length ≤ 9223372036854775807) : ∃ b, Ev (fun k => spec_l1All.f k l lo hi) b ∧ (b = true ↔ AllIn l lo hi) := by
  unfold spec_l1All.f
  exact spec_all_loop l lo hi hx l.length 0 (by omega) (fun m h => by omega)

theorem szStep6S_eq (l : List S104) (m : Int) (h0 : 0 ≤ m) (h1 : m ≤ 1048576) (hl : l.length ≤ 9223372036854775807) : laws_szStep6S.f l m = some (if m - l.length < 0 then -1 else m - l.length) := by
  unfold laws_szStep6S.f
  rw [w64 (x := m - (l.length : Int)) (by omega) (by omega)]
  by_cases h : m - (l.length : Int) < 0
  · rw [if_pos h, if_pos h]
  · rw [if_neg h, if_neg h]

def c_Step6 (x : S104) : S101 := ⟨x.f0, x.f1⟩
theorem toStep6S_loop (x0 : List S104) (hx : x0.length ≤ 9223372036854775807) : ∀ (d n : Nat) (x3 : List S101), n + d = x0.length → x3.length = x0.length → x3.take n = (x0.map c_Step6).take n → Ev (fun k => laws_toStep6S.l0 k x0 x3 (n : Int)) (x0.map c_Step6) := by
  intro d
  induction d with
  | zero =>
    intro n x3 hn hl ht
    refine ev_succ ?_
    simp only [laws_toStep6S.l0]
    refine ev_neg (by omega) ?_
    have e : x3 = x0.map c_Step6 := by rw [← List.take_of_length_le (l := x3) (i := n) (by omega), ht, List.take_of_length_le (by simp; omega)]
    rw [e]
    exact Ev.now _
  | succ d ih =>
    intro n x3 hn hl ht
    have e : (⟨(rd_T104 x0 (n : Int)).f0, (rd_T104 x0 (n : Int)).f1⟩ : S101) = (x0.map c_Step6).getD n (c_Step6 z104) := by
      rw [getD_map]
      simp [rd_T104, c_Step6]
    refine ev_succ ?_
    simp only [laws_toStep6S.l0, laws_toStep6.f, Option.bind_some, Int.toNat_natCast]
    refine ev_pos (by omega) (ev_pos (by omega) (ev_pos (by omega) ?_))
    rw [e, w64_succ (m := x0.length) (by omega) hx]
    exact ih (n + 1) _ (by omega) (by simpa using hl) (take_set_succ _ (by simp; omega) (by simpa using hl) ht)
theorem toStep6S_ev (l : List S104) (h : l.length ≤ 1048576) : Ev (fun k => laws_toStep6S.f k l) (l.map c_Step6) := by
  unfold laws_toStep6S.f
  refine ev_pos (by omega) (ev_pos (by omega) ?_)
  exact toStep6S_loop l (by omega) l.length 0 _ (by omega) (by simp) (by simp)

theorem eqStep6_eq (a0 : Int) (a1 : Int) : laws_eqStep6.f a0 a1 a0 a1 = some true := by
  simp [laws_eqStep6.f]
theorem eqStep6S_loop (x0 : List S101) (hx : x0.length ≤ 9223372036854775807) : ∀ (d n : Nat), n + d = x0.length → Ev (fun k => laws_eqStep6S.l0 k x0 x0 (n : Int)) true := by
  intro d
  induction d with
  | zero =>
    intro n hn
    refine ev_succ ?_
    simp only [laws_eqStep6S.l0]
    exact ev_neg (by omega) (Ev.now _)
  | succ d ih =>
    intro n hn
    refine ev_succ ?_
    simp only [laws_eqStep6S.l0, eqStep6_eq, Option.bind_some]
    refine ev_pos (by omega) (ev_pos (by omega) (ev_pos (by omega) (ev_pos (by trivial) ?_)))
    rw [w64_succ (m := x0.length) (by omega) hx]
    exact ih (n + 1) (by omega)
theorem eqStep6S_ev (l : List S101) (h : l.length ≤ 9223372036854775807) : Ev (fun k => laws_eqStep6S.f k l l) true := by
  unfold laws_eqStep6S.f
  exact ev_pos (by trivial) (eqStep6S_loop l h l.length 0 (by omega))

theorem toIntS_loop (x0 : List Int) (hx : x0.length ≤ 9223372036854775807) : ∀ (d n : Nat) (x3 : List Int), n + d = x0.length → x3.length = x0.length → x3.take n = x0.take n → Ev (fun k => laws_toIntS.l0 k x0 x3 (n : Int)) x0 := by
  intro d
  induction d with
  | zero =>
    intro n x3 hn hl ht
    refine ev_succ ?_
    simp only [laws_toIntS.l0]
    refine ev_neg (by omega) ?_
    have e : x3 = x0 := by rw [← List.take_of_length_le (l := x3) (i := n) (by omega), ht, List.take_of_length_le (by omega)]
    rw [e]
    exact Ev.now _
  | succ d ih =>
    intro n x3 hn hl ht
    refine ev_succ ?_
    simp only [laws_toIntS.l0]
    refine ev_pos (by omega) (ev_pos (by omega) (ev_pos (by omega) ?_))
    rw [rd_nat, Int.toNat_natCast, w64_succ (m := x0.length) (by omega) hx]
    exact ih (n + 1) _ (by omega) (by simpa using hl) (take_set_succ 0 (by omega) hl ht)
theorem toIntS_ev (l : List Int) (h : l.length ≤ 35184372088832) : Ev (fun k => laws_toIntS.f k l) l := by
  unfold laws_toIntS.f
  refine ev_pos (by omega) (ev_pos (by omega) ?_)
  exact toIntS_loop l (by omega) l.length 0 _ (by omega) (by simp) (by simp)

theorem eqIntS_loop (x0 : List Int) (hx : x0.length ≤ 9223372036854775807) : ∀ (d n : Nat), n + d = x0.length → Ev (fun k => laws_eqIntS.l0 k x0 x0 (n : Int)) true := by
  intro d
  induction d with
  | zero =>
    intro n hn
    refine ev_succ ?_
    simp only [laws_eqIntS.l0]
    exact ev_neg (by omega) (Ev.now _)
  | succ d ih =>
    intro n hn
    refine ev_succ ?_
    simp only [laws_eqIntS.l0]
    refine ev_pos (by omega) (ev_pos (by omega) (ev_pos (by omega) (ev_pos (by trivial) ?_)))
    rw [w64_succ (m := x0.length) (by omega) hx]
    exact ih (n + 1) (by omega)
theorem eqIntS_ev (l : List Int) (h : l.length ≤ 9223372036854775807) : Ev (fun k => laws_eqIntS.f k l l) true := by
  unfold laws_eqIntS.f
  exact ev_pos (by trivial) (eqIntS_loop l h l.length 0 (by omega))

theorem curve_loop (l : List S101) (hl : l.length ≤ 1048576) : ∀ (d n : Nat), n + d = l.length → ∃ b, Ev (fun k => spec_l6Curve.l0 k l (n : Int)) b ∧ Ev (fun k => impl_fatigueOk.l0 k l l (l.length : Int) (n : Int)) b ∧ (b = true → (∀ m, n ≤ m → m < l.length → OkAt l m) ∧ l.length ≤ 20) := by
  intro d
  induction d with
  | zero =>
    intro n hn
    refine ⟨decide (1 ≤ (l.length : Int) ∧ (l.length : Int) ≤ 20), ev_succ ?_, ev_succ ?_, ?_⟩
    · simp only [spec_l6Curve.l0, spec_in_eq, Option.bind_some]
      exact ev_neg (by omega) (Ev.now _)
    · simp only [impl_fatigueOk.l0, impl_in_eq, Option.bind_some]
      exact ev_neg (by omega) (Ev.now _)
    · intro h
      have := of_decide_eq_true h
      exact ⟨fun m h1 h2 => by omega, by omega⟩
  | succ d ih =>
    intro n hn
    have hw := w64_succ (n := n) (m := l.length) (by omega) (by omega)
    obtain ⟨b, hs, hi, hb⟩ := ih (n + 1) (by omega)
    have no : ∀ p : Prop, (false = true → p) := fun p h => by cases h
    by_cases h1 : 1 ≤ (l.getD n z101).f0 ∧ (l.getD n z101).f0 ≤ 1000000
    rotate_left
    · refine ⟨false, ev_succ ?_, ev_succ ?_, no _⟩
      · simp only [spec_l6Curve.l0, spec_in_eq, Option.bind_some, rdS_nat]
        exact ev_pos (by omega) (ev_pos (by omega) (ev_neg (by simpa using h1) (Ev.now _)))
      · simp only [impl_fatigueOk.l0, impl_in_eq, Option.bind_some, rdS_nat]
        exact ev_pos (by omega) (ev_pos (by omega) (ev_pos (by omega) (ev_neg (by simpa using h1) (Ev.now _))))
    by_cases h2 : 1 ≤ (l.getD n z101).f1 ∧ (l.getD n z101).f1 ≤ 1000000
    rotate_left
    · refine ⟨false, ev_succ ?_, ev_succ ?_, no _⟩
      · simp only [spec_l6Curve.l0, spec_in_eq, Option.bind_some, rdS_nat]
        exact ev_pos (by omega) (ev_pos (by omega) (ev_pos (by simpa using h1) (ev_neg (by simpa using h2) (Ev.now _))))
      · simp only [impl_fatigueOk.l0, impl_in_eq, Option.bind_some, rdS_nat]
        exact ev_pos (by omega) (ev_pos (by omega) (ev_pos (by omega) (ev_pos (by simpa using h1) (ev_neg (by simpa using h2) (Ev.now _)))))
    have all : ∀ hp : 0 < n → (l.getD (n - 1) z101).f0 < (l.getD n z101).f0, b = true → (∀ m, n ≤ m → m < l.length → OkAt l m) ∧ l.length ≤ 20 := by
      intro hp h
      obtain ⟨q1, q2⟩ := hb h
      refine ⟨fun m h3 h4 => ?_, q2⟩
      by_cases e : m = n
      · subst e
        exact ⟨h2, hp⟩
      · exact q1 m (by omega) h4
    by_cases h3 : n = 0
    · refine ⟨b, ev_succ ?_, ev_succ ?_, all (fun h => by omega)⟩
      · simp only [spec_l6Curve.l0, spec_in_eq, Option.bind_some, rdS_nat, hw]
        exact ev_pos (by omega) (ev_pos (by omega) (ev_pos (by simpa using h1) (ev_pos (by simpa using h2) (ev_neg (by omega) hs))))
      · simp only [impl_fatigueOk.l0, impl_in_eq, Option.bind_some, rdS_nat, hw]
        exact ev_pos (by omega) (ev_pos (by omega) (ev_pos (by omega) (ev_pos (by simpa using h1) (ev_pos (by simpa using h2) (ev_neg (by omega) hi)))))
    have hm : wrap64 ((n : Int) - 1) = ((n - 1 : Nat) : Int) := by rw [w64 (by omega) (by omega)]; omega
    by_cases h4 : (l.getD (n - 1) z101).f0 ≥ (l.getD n z101).f0
    · refine ⟨false, ev_succ ?_, ev_succ ?_, no _⟩
      · simp only [spec_l6Curve.l0, spec_in_eq, Option.bind_some, hm, rdS_nat]
        exact ev_pos (by omega) (ev_pos (by omega) (ev_pos (by simpa using h1) (ev_pos (by simpa using h2) (ev_pos (by omega) (ev_pos (by omega) (ev_pos (by omega) (ev_pos h4 (Ev.now _))))))))
      · simp only [impl_fatigueOk.l0, impl_in_eq, Option.bind_some, hm, rdS_nat]
        exact ev_pos (by omega) (ev_pos (by omega) (ev_pos (by omega) (ev_pos (by simpa using h1) (ev_pos (by simpa using h2) (ev_pos (by omega) (ev_pos (by omega) (ev_pos (by omega) (ev_pos h4 (Ev.now _)))))))))
    by_cases h5 : (l.getD (n - 1) z101).f1 ≤ (l.getD n z101).f1
    · refine ⟨false, ev_succ ?_, ev_succ ?_, no _⟩
      · simp only [spec_l6Curve.l0, spec_in_eq, Option.bind_some, hm, rdS_nat]
        exact ev_pos (by omega) (ev_pos (by omega) (ev_pos (by simpa using h1) (ev_pos (by simpa using h2) (ev_pos (by omega) (ev_pos (by omega) (ev_pos (by omega) (ev_neg h4 (ev_pos h5 (Ev.now _)))))))))
      · simp only [impl_fatigueOk.l0, impl_in_eq, Option.bind_some, hm, rdS_nat]
        exact ev_pos (by omega) (ev_pos (by omega) (ev_pos (by omega) (ev_pos (by simpa using h1) (ev_pos (by simpa using h2) (ev_pos (by omega) (ev_pos (by omega) (ev_pos (by omega) (ev_neg h4 (ev_pos h5 (Ev.now _))))))))))
    · refine ⟨b, ev_succ ?_, ev_succ ?_, all (fun _ => by omega)⟩
      · simp only [spec_l6Curve.l0, spec_in_eq, Option.bind_some, hm, hw, rdS_nat]
        exact ev_pos (by omega) (ev_pos (by omega) (ev_pos (by simpa using h1) (ev_pos (by simpa using h2) (ev_pos (by omega) (ev_pos (by omega) (ev_pos (by omega) (ev_neg h4 (ev_neg h5 hs))))))))
      · simp only [impl_fatigueOk.l0, impl_in_eq, Option.bind_some, hm, hw, rdS_nat]
        exact ev_pos (by omega) (ev_pos (by omega) (ev_pos (by omega) (ev_pos (by simpa using h1) (ev_pos (by simpa using h2) (ev_pos (by omega) (ev_pos (by omega) (ev_pos (by omega) (ev_neg h4 (ev_neg h5 hi)))))))))
theorem curve_both (l : List S101) (hl : l.length ≤ 1048576) : ∃ b, Ev (fun k => spec_l6Curve.f k l) b ∧ Ev (fun k => impl_fatigueOk.f k l) b ∧ (b = true → CurveOk l) := by
  obtain ⟨b, h1, h2, h3⟩ := curve_loop l hl l.length 0 (by omega)
  refine ⟨b, ?_, ?_, fun h => ⟨fun m hm => (h3 h).1 m (by omega) hm, (h3 h).2⟩⟩
  · unfold spec_l6Curve.f
    exact h1
  · unfold impl_fatigueOk.f
    exact h2
/-! the reference's sum -/
theorem spec_gcd0 (b n d : Int) (r : Int × Int × Bool) : ∀ (y x : Nat), Ev (fun k => spec_l6Plus.l0 k b ((Nat.gcd x y : Nat) : Int) 0 n d) r → Ev (fun k => spec_l6Plus.l0 k b (x : Int) (y : Int) n d) r := by
  intro y
  induction y using Nat.strongRecOn with
  | _ y ih =>
    intro x h
    by_cases hy : y = 0
    · subst hy
      rw [Nat.gcd_zero_right] at h
      exact h
    · refine ev_succ ?_
      simp only [spec_l6Plus.l0]
      refine ev_neg (by omega) ?_
      rw [tmod_nat]
      refine ih (x % y) (Nat.mod_lt _ (by omega)) y ?_
      rw [show Nat.gcd y (x % y) = Nat.gcd x y by rw [Nat.gcd_comm x y, Nat.gcd_rec y x, Nat.gcd_comm]]
      exact h
theorem spec_gcd1 (b dn num : Int) (r : Int × Int × Bool) : ∀ (y x : Nat), Ev (fun k => spec_l6Plus.l1 k b dn num ((Nat.gcd x y : Nat) : Int) 0) r → Ev (fun k => spec_l6Plus.l1 k b dn num (x : Int) (y : Int)) r := by
  intro y
  induction y using Nat.strongRecOn with
  | _ y ih =>
    intro x h
    by_cases hy : y = 0
    · subst hy
      rw [Nat.gcd_zero_right] at h
      exact h
    · refine ev_succ ?_
      simp only [spec_l6Plus.l1]
      refine ev_neg (by omega) ?_
      rw [tmod_nat]
      refine ih (x % y) (Nat.mod_lt _ (by omega)) y ?_
      rw [show Nat.gcd y (x % y) = Nat.gcd x y by rw [Nat.gcd_comm x y, Nat.gcd_rec y x, Nat.gcd_comm]]
      exact h
theorem pD_eq {n d b : Nat} (h : PB n d b) : pD n d b = d / Nat.gcd d b * (b / pT n d b) := by
  obtain ⟨g0, g1, u0, u1, w0, w1⟩ := pb_gcd h
  obtain ⟨t0, t1, t2, t3, t4⟩ := pb_pt h
  unfold pD
  obtain ⟨a, ea⟩ := t3
  obtain ⟨c, ec⟩ := t4
  obtain ⟨e, ee⟩ := Nat.gcd_dvd_left d b
  obtain ⟨f, ef⟩ := Nat.gcd_dvd_right d b
  generalize pT n d b = t at *
  generalize Nat.gcd d b = g at *
  have q1 : d / t = a := by rw [ea]; exact Nat.mul_div_cancel_left a (by omega)
  have q2 : b / t = c := by rw [ec]; exact Nat.mul_div_cancel_left c (by omega)
  have q3 : d / g = e := by rw [ee]; exact Nat.mul_div_cancel_left e (by omega)
  have q4 : b / g = f := by rw [ef]; exact Nat.mul_div_cancel_left f (by omega)
  rw [q1, q2, q3, q4]
  have hh : (t * g) * (a * f) = (t * g) * (e * c) := by
    calc (t * g) * (a * f) = (t * a) * (g * f) := by ac_rfl
      _ = d * b := by rw [← ea, ← ef]
      _ = (g * e) * (t * c) := by rw [← ee, ← ec]
      _ = (t * g) * (e * c) := by ac_rfl
  exact Nat.eq_of_mul_eq_mul_left (Nat.mul_pos (by omega) (by omega)) hh
theorem too_great {n d b : Nat} (h : PB n d b) (ho : 9000000000000000000 < (n + d / Nat.gcd d b) * (b / Nat.gcd d b)) : ¬ (pN n d b / pT n d b ≤ 1000000000000000 ∧ pD n d b ≤ 1000000000000000) := by
  intro ⟨h1, h2⟩
  obtain ⟨g0, g1, u0, u1, w0, w1⟩ := pb_gcd h
  obtain ⟨t0, t1, t2, t3, t4⟩ := pb_pt h
  have hn := h.hn
  have hb := h.hb
  have hD : d / Nat.gcd d b * (b / Nat.gcd d b) ≤ pD n d b := by
    rw [pD_eq h]
    exact Nat.mul_le_mul_left _ (Nat.div_le_div_left t1 (by omega))
  have hgb : Nat.gcd d b * (b / Nat.gcd d b) ≤ b := Nat.mul_div_le b _
  have hN : pN n d b = n * (b / Nat.gcd d b) + d / Nat.gcd d b := rfl
  have hlt : pN n d b < (1000000000000000 + 1) * pT n d b := (Nat.div_lt_iff_lt_mul (by omega)).1 (by omega)
  rw [Nat.add_mul] at ho
  generalize d / Nat.gcd d b * (b / Nat.gcd d b) = Q at *
  generalize hu : b / Nat.gcd d b = u at *
  generalize Nat.gcd d b = g at *
  generalize pT n d b = t at *
  have hnu : 8999000000000000000 ≤ n * u := by omega
  have hg : 8000 ≤ g := by omega
  have hu2 : u ≤ 125 := by
    rcases Nat.lt_or_ge 125 u with hc | hc
    · have := Nat.mul_le_mul hg (show 126 ≤ u by omega)
      omega
    · exact hc
  have := Nat.mul_le_mul hn hu2
  omega
theorem w64_sub {x y : Nat} (hx : x ≤ 9000000000000000000) (hy : y ≤ 1000000000000000) : wrap64 ((x : Int) - (y : Int)) = (x : Int) - (y : Int) := w64 (by omega) (by omega)
theorem w64_add {x y : Nat} (hx : x ≤ 9000000000000000000) (hy : y ≤ 1000000000000000) : wrap64 ((x : Int) + (y : Int)) = ((x + y : Nat) : Int) := by
  rw [w64 (by omega) (by omega)]
  rfl
theorem c_gt {q n dn : Nat} (h : q < n + dn) : (n : Int) > (q : Int) - (dn : Int) := by omega
theorem c_le {q n dn : Nat} (h : ¬ q < n + dn) : ¬ (n : Int) > (q : Int) - (dn : Int) := by omega
theorem c_nz {x : Nat} (h : 0 < x) : ¬ (x : Int) = 0 := by omega
theorem c_big {x : Nat} (h : ¬ x ≤ 1000000000000000) : (x : Int) > 1000000000000000 := by omega
theorem c_small {x : Nat} (h : x ≤ 1000000000000000) : ¬ (x : Int) > 1000000000000000 := by omega
theorem c_lt {x y : Nat} (h : x < y) : (y : Int) > (x : Int) := by omega
theorem c_nlt {x y : Nat} (h : y ≤ x) : ¬ (y : Int) > (x : Int) := by omega
theorem c_add {x y : Nat} (hx : x ≤ 9000000000000000000) (hy : y ≤ 1000000000000000) : x + y ≤ 9001000000000000000 := by omega
theorem plus_good {n d b : Nat} (h1 : pN n d b / pT n d b ≤ 1000000000000000) (h2 : pD n d b ≤ 1000000000000000) : plus n d b = (((pN n d b / pT n d b : Nat) : Int), ((pD n d b : Nat) : Int), true) := if_pos ⟨h1, h2⟩
theorem plus_spec {n d b : Nat} (h : PB n d b) : Ev (fun k => spec_l6Plus.f k (n : Int) (d : Int) (b : Int)) (plus n d b) := by
  obtain ⟨g0, g1, u0, u1, w0, w1⟩ := pb_gcd h
  obtain ⟨t0, t1, t2, t3, t4⟩ := pb_pt h
  have hd := h.hd
  have hb := h.hb
  have eD := pD_eq h
  have big := too_great h
  have hN : pN n d b = n * (b / Nat.gcd d b) + d / Nat.gcd d b := by unfold pN; rfl
  have hT : Nat.gcd (pN n d b) (Nat.gcd d b) = pT n d b := by unfold pT; rfl
  clear h
  have eup : wrap64 (Int.tdiv (b : Int) ((Nat.gcd d b : Nat) : Int)) = ((b / Nat.gcd d b : Nat) : Int) := by rw [quo_nat]; exact w64n (Nat.le_trans u1 (by decide))
  have edn : wrap64 (Int.tdiv (d : Int) ((Nat.gcd d b : Nat) : Int)) = ((d / Nat.gcd d b : Nat) : Int) := by rw [quo_nat]; exact w64n (Nat.le_trans w1 (by decide))
  have hq : 9000000000000000000 / (b / Nat.gcd d b) ≤ 9000000000000000000 := Nat.div_le_self _ _
  have elim : wrap64 (Int.tdiv 9000000000000000000 ((b / Nat.gcd d b : Nat) : Int)) = ((9000000000000000000 / (b / Nat.gcd d b) : Nat) : Int) := by
    rw [show (9000000000000000000 : Int) = ((9000000000000000000 : Nat) : Int) from rfl, quo_nat]
    exact w64n (Nat.le_trans hq (by decide))
  unfold spec_l6Plus.f
  refine spec_gcd0 _ _ _ _ b d (ev_succ ?_)
  simp only [spec_l6Plus.l0, eup, edn, elim]
  refine ev_pos (by trivial) (ev_neg (c_nz g0) (ev_neg (c_nz u0) ?_))
  rw [w64_sub hq w1]
  by_cases ho : 9000000000000000000 / (b / Nat.gcd d b) < n + d / Nat.gcd d b
  · have ho2 := (Nat.div_lt_iff_lt_mul u0).1 ho
    rw [show plus n d b = (0, 0, false) from plus_bad (big ho2)]
    exact ev_pos (c_gt ho) (Ev.now _)
  have ho2 : (n + d / Nat.gcd d b) * (b / Nat.gcd d b) ≤ 9000000000000000000 := (Nat.le_div_iff_mul_le u0).1 (Nat.le_of_not_lt ho)
  rw [Nat.add_mul] at ho2
  have ho3 : n * (b / Nat.gcd d b) ≤ 9000000000000000000 := Nat.le_trans (Nat.le_add_right _ _) ho2
  refine ev_neg (c_le ho) ?_
  have em : wrap64 ((n : Int) * ((b / Nat.gcd d b : Nat) : Int)) = ((n * (b / Nat.gcd d b) : Nat) : Int) := by
    rw [← Int.natCast_mul]
    exact w64n (Nat.le_trans ho3 (by decide))
  have en : wrap64 (((n * (b / Nat.gcd d b) : Nat) : Int) + ((d / Nat.gcd d b : Nat) : Int)) = ((pN n d b : Nat) : Int) := by
    rw [hN]
    exact w64_add ho3 w1
  have hN9 : pN n d b ≤ 9001000000000000000 := by
    rw [hN]
    exact c_add ho3 w1
  simp only [em, en]
  clear em en ho ho2 ho3 elim hq eup edn
  refine spec_gcd1 _ _ _ _ (Nat.gcd d b) (pN n d b) ?_
  rw [hT]
  have hqn : pN n d b / pT n d b ≤ pN n d b := Nat.div_le_self _ _
  have hqb : b / pT n d b ≤ b := Nat.div_le_self _ _
  have hqb1 : 0 < b / pT n d b := Nat.div_pos (Nat.le_of_dvd hb.1 t4) t0
  have e1 : wrap64 (Int.tdiv ((pN n d b : Nat) : Int) ((pT n d b : Nat) : Int)) = ((pN n d b / pT n d b : Nat) : Int) := by rw [quo_nat]; exact w64n (Nat.le_trans hqn (Nat.le_trans hN9 (by decide)))
  have e2 : wrap64 (Int.tdiv (b : Int) ((pT n d b : Nat) : Int)) = ((b / pT n d b : Nat) : Int) := by rw [quo_nat]; exact w64n (Nat.le_trans hqb (Nat.le_trans hb.2 (by decide)))
  have h15 : 1000000000000000 / (b / pT n d b) ≤ 1000000000000000 := Nat.div_le_self _ _
  have e3 : wrap64 (Int.tdiv 1000000000000000 ((b / pT n d b : Nat) : Int)) = ((1000000000000000 / (b / pT n d b) : Nat) : Int) := by
    rw [show (1000000000000000 : Int) = ((1000000000000000 : Nat) : Int) from rfl, quo_nat]
    exact w64n (Nat.le_trans h15 (by decide))
  refine ev_succ ?_
  simp only [spec_l6Plus.l1, e1, e2, e3]
  refine ev_pos (by trivial) (ev_neg (c_nz t0) ?_)
  by_cases h1 : pN n d b / pT n d b ≤ 1000000000000000
  rotate_left
  · rw [show plus n d b = (0, 0, false) from plus_bad (fun hc => h1 hc.1)]
    exact ev_pos (c_big h1) (Ev.now _)
  refine ev_neg (c_small h1) (ev_neg (c_nz hqb1) ?_)
  by_cases h2 : d / Nat.gcd d b * (b / pT n d b) ≤ 1000000000000000
  rotate_left
  · rw [show plus n d b = (0, 0, false) from plus_bad (fun hc => h2 (by rw [← eD]; exact hc.2))]
    exact ev_pos (c_lt ((Nat.div_lt_iff_lt_mul hqb1).2 (Nat.lt_of_not_le h2))) (Ev.now _)
  refine ev_neg (c_nlt ((Nat.le_div_iff_mul_le hqb1).2 h2)) ?_
  rw [plus_good h1 (by rw [eD]; exact h2), eD, ← Int.natCast_mul, w64n (Nat.le_trans h2 (by decide))]
  exact Ev.now _
/-! the reference's ranges -/
theorem spec_find {l : List S101} (hl : l.length ≤ 1000) (rs : List Int) {i : Nat} (hi : i < rs.length) (n d : Int) (r : Int × Int × Bool) (hr : Ev (fun k => spec_Used.l1 k l rs (i : Int) (cyc l (rs.getD i 0)) (l.length : Int) n d) r) :
    ∀ (dd j : Nat), j + dd = l.length → Ev (fun k => spec_Used.l1 k l rs (i : Int) ((l.take j).foldl (cyF (rs.getD i 0)) 0) (j : Int) n d) r := by
  intro dd
  induction dd with
  | zero =>
    intro j hj
    obtain rfl : j = l.length := by omega
    rw [List.take_length]
    exact hr
  | succ dd ih =>
    intro j hj
    have hw := w64_succ (n := j) (m := l.length) (by omega) (by omega)
    have h3 := ih (j + 1) (by omega)
    rw [take_fold l _ (by omega)] at h3
    unfold cyF at h3
    refine ev_succ ?_
    simp only [spec_Used.l1, hw, rdS_nat, rd_nat]
    refine ev_pos (by omega) (ev_pos (by omega) (ev_pos (by omega) (ev_pos (by omega) ?_)))
    by_cases hx : (l.getD j z101).f0 ≤ rs.getD i 0
    · rw [if_pos hx] at h3
      exact ev_pos hx h3
    · rw [if_neg hx] at h3
      exact ev_neg hx h3
theorem spec_used_loop {l : List S101} (hc : CurveOk l) (rs : List Int) (hr : rs.length ≤ 40) : ∀ (dd i n d : Nat), i + dd = rs.length → n ≤ 1000000000000000 → 1 ≤ d → d ≤ 1000000000000000 → Ev (fun k => spec_Used.l0 k l rs (i : Int) (n : Int) (d : Int)) (usd l (rs.drop i) n d) := by
  have hl := hc.2
  intro dd
  induction dd with
  | zero =>
    intro i n d hi hn hd hd2
    rw [List.drop_of_length_le (by omega)]
    refine ev_succ ?_
    simp only [spec_Used.l0, usd]
    exact ev_neg (by omega) (Ev.now _)
  | succ dd ih =>
    intro i n d hi hn hd hd2
    have hw := w64_succ (n := i) (m := rs.length) (by omega) (by omega)
    rw [drop_int (by omega)]
    simp only [usd]
    refine ev_succ ?_
    simp only [spec_Used.l0]
    refine ev_pos (by omega) (spec_find (by omega) rs (by omega) _ _ _ ?_ l.length 0 (by omega))
    refine ev_succ ?_
    simp only [spec_Used.l1, hw]
    refine ev_neg (by omega) ?_
    by_cases he : cyc l (rs.getD i 0) = 0
    · rw [if_pos he]
      exact ev_pos he (ih (i + 1) n d (by omega) hn hd hd2)
    · rw [if_neg he]
      have ok := cyc_bd hc _ he
      have pb : PB n d (cyc l (rs.getD i 0)).toNat := ⟨hn, ⟨hd, hd2⟩, by omega⟩
      have ha := plus_spec pb
      rw [Int.toNat_of_nonneg (by omega)] at ha
      refine ev_neg he (Ev.bind ha ?_)
      by_cases hp : (plus n d (cyc l (rs.getD i 0)).toNat).2.2 = true
      · obtain ⟨n', d', q, q1, q2, q3⟩ := plus_ok pb hp
        rw [if_pos hp]
        refine ev_pos hp ?_
        rw [q]
        simp only [Int.toNat_natCast]
        exact ih (i + 1) n' d' (by omega) q1 q2 q3
      · rw [if_neg hp]
        exact ev_neg hp (Ev.now _)
theorem used_both (l : List S101) (rs : List Int) (hl : l.length ≤ 1048576) (hr : rs.length ≤ 1048576) : ∃ r, Ev (fun k => spec_Used.f k l rs) r ∧ Ev (fun k => impl_Used.f k l rs) r := by
  obtain ⟨b, hs, hi, hb⟩ := curve_both l hl
  have bad : Ev (fun k => spec_Used.j0 k l rs true) (0, 0, false) ∧ Ev (fun k => impl_Used.j0 k l rs true) (0, 0, false) := by
    refine ⟨ev_succ ?_, ev_succ ?_⟩
    · simp only [spec_Used.j0]
      exact ev_pos (by trivial) (Ev.now _)
    · simp only [impl_Used.j0]
      exact ev_pos (by trivial) (Ev.now _)
  unfold spec_Used.f impl_Used.f
  cases b with
  | false => exact ⟨_, Ev.bind hs (ev_neg (by decide) bad.1), Ev.bind hi (ev_neg (by decide) bad.2)⟩
  | true =>
    have hc := hb rfl
    by_cases h4 : (rs.length : Int) > 40
    · exact ⟨_, Ev.bind hs (ev_pos (by trivial) (ev_pos h4 bad.1)), Ev.bind hi (ev_pos (by trivial) (ev_pos h4 bad.2))⟩
    obtain ⟨p, hp, ip⟩ := spec_all_ev rs 0 2000000 (by omega)
    obtain ⟨q, hq, iq⟩ := impl_all_ev rs 0 2000000 (by omega)
    obtain rfl : q = p := bool_eq_of_iff iq ip
    cases q with
    | false => exact ⟨_, Ev.bind hs (ev_pos (by trivial) (ev_neg h4 (Ev.bind hp bad.1))), Ev.bind hi (ev_pos (by trivial) (ev_neg h4 (Ev.bind hq bad.2)))⟩
    | true =>
      have h1 := spec_used_loop hc rs (by omega) rs.length 0 0 1 (by omega) (by omega) (by omega) (by omega)
      have h2 := impl_used_loop hc rs (by omega) rs.length 0 0 1 (by omega) (by omega) (by omega) (by omega)
      rw [List.drop_zero] at h1 h2
      refine ⟨usd l rs 0 1, Ev.bind hs (ev_pos (by trivial) (ev_neg h4 (Ev.bind hp (ev_succ ?_)))), Ev.bind hi (ev_pos (by trivial) (ev_neg h4 (Ev.bind hq (ev_succ ?_))))⟩
      · simp only [spec_Used.j0]
        exact ev_neg (by decide) h1
      · simp only [impl_Used.j0]
        exact ev_neg (by decide) h2
theorem FnExactUsed : laws_FnExactUsed.PureR := by
  intro l rs ⟨hx, _⟩ _
  refine Ev.rounds ?_
  unfold laws_FnExactUsed.f
  by_cases h0 : (rs.length : Int) > 1048576
  · exact ev_pos h0 (Ev.now _)
  rw [szStep6S_eq l _ (by omega) (by omega) hx]
  simp only [Option.bind_some]
  by_cases hb : (1048576 : Int) - l.length < 0
  · rw [if_pos hb]
    exact ev_neg h0 (ev_pos (by omega) (Ev.now _))
  rw [if_neg hb]
  obtain ⟨⟨r1, r2, r3⟩, h1, h2⟩ := used_both (l.map c_Step6) rs (by simp; omega) (by omega)
  have ht := toStep6S_ev l (by omega)
  have hi := toIntS_ev rs (by omega)
  have he := eqStep6S_ev (l.map c_Step6) (by simp; omega)
  have hf : laws_eqFrac.f r1 r2 r1 r2 = some true := by simp [laws_eqFrac.f]
  refine ev_neg h0 (ev_neg hb (Ev.bind ht (Ev.bind hi (Ev.bind h1 (Ev.bind ht (Ev.bind hi (Ev.bind h2 ?_)))))))
  simp only [hf, Option.bind_some]
  refine ev_pos (by trivial) (ev_succ ?_)
  simp only [laws_FnExactUsed.j0]
  exact ev_neg (by simp) (Ev.bind ht (Ev.bind he (ev_pos (by trivial) (Ev.bind hi (Ev.bind (eqIntS_ev rs (by omega)) (ev_pos (by trivial) (Ev.now _)))))))

end Go.Proofs.Ytkginilghcepbaa.Pure
