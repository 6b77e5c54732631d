/- Proved here: of drawn loads a level above all is never crossed; what two histories of swings use is what both use together; no condition. -/
import Derived.Test.YtnphbpkpjinddaaPureDefFnCycles
namespace Go.Proofs.Ytnphbpkpjinddaa.Pure
open Go.RowKit Go.Proofs.Ytnphbpkpjinddaa.QFnCycles Go.Proofs.YtnphbpkpjinddaaW.PrintWords Go.Proofs.YtnphbpkpjinddaaW.PrintLast Go.Proofs.YtnphbpkpjinddaaW.PrintMore
set_option linter.unusedVariables false
set_option linter.unusedSimpArgs false

theorem ev_pos {c : Prop} [Decidable c] {α : Type} {A B : Nat → Option α} {r : α} (h : c) (k : Ev A r) : Ev (fun n => if c then A n else B n) r := by
  simpa only [if_pos h] using k
theorem ev_neg {c : Prop} [Decidable c] {α : Type} {A B : Nat → Option α} {r : α} (h : ¬ c) (k : Ev B r) : Ev (fun n => if c then A n else B n) r := by
  simpa only [if_neg h] using k
theorem ev_succ {α : Type} {g : Nat → Option α} {r : α} (h : Ev (fun k => g (k + 1)) r) : Ev g r := Ev.step (fun _ => rfl) h
theorem ex_succ {α : Type} {g : Nat → Option α} (h : ∃ r, Ev (fun k => g (k + 1)) r) : ∃ r, Ev g r := by
  obtain ⟨r, h⟩ := h
  exact ⟨r, ev_succ h⟩
theorem ev_one {α : Type} {g : Nat → Option α} {r q : α} (h : Ev g r) (h' : Ev g q) : r = q := by
  obtain ⟨K, hK⟩ := h
  obtain ⟨L, hL⟩ := h'
  have a := hK (max K L) (Nat.le_max_left _ _)
  have b := hL (max K L) (Nat.le_max_right _ _)
  exact Option.some.inj (a.symm.trans b)
theorem ev_bool {α : Type} {A B : Nat → Option α} {r : α} (b : Bool) (h1 : b = true → Ev A r) (h2 : b = false → Ev B r) : Ev (fun n => if b = true then A n else B n) r := by
  cases b with
  | true => exact ev_pos (by trivial) (h1 rfl)
  | false => exact ev_neg (by decide) (h2 rfl)
theorem bool_eq_of_iff {a b : Bool} {p : Prop} (h : a = true ↔ p) (h' : b = true ↔ p) : a = b := by
  rw [Bool.eq_iff_iff]
  exact h.trans h'.symm
theorem w64 {x : Int} (h0 : -9223372036854775808 ≤ x) (h1 : x ≤ 9223372036854775807) : wrap64 x = x := by
  unfold wrap64
  omega
theorem w64_succ {n m : Nat} (h : n < m) (hm : m ≤ 9223372036854775807) : wrap64 ((n : Int) + 1) = ((n + 1 : Nat) : Int) := by
  unfold wrap64
  omega
theorem rd_nat (l : List Int) (n : Nat) : rd l (n : Int) = l.getD n 0 := by
  unfold rd
  rw [Int.toNat_natCast]
theorem take_set_succ {α : Type} (d : α) {x0 x3 : List α} {n : Nat} (h : n < x0.length) (hl : x3.length = x0.length) (ht : x3.take n = x0.take n) : (x3.set n (x0.getD n d)).take (n + 1) = x0.take (n + 1) := by
  apply List.ext_getElem?
  intro i
  simp only [List.getElem?_take, List.getElem?_set]
  by_cases hi : i < n + 1
  · rw [if_pos hi, if_pos hi]
    by_cases he : n = i
    · subst he
      rw [if_pos rfl, if_pos (by omega), List.getD_eq_getElem?_getD, List.getElem?_eq_getElem h]
      rfl
    · rw [if_neg he]
      have := congrArg (fun l => l[i]?) ht
      simpa only [List.getElem?_take, if_pos (show i < n by omega)] using this
  · rw [if_neg hi, if_neg hi]
theorem u8_bounds {l : List Int} (h : ∀ x ∈ l, 0 ≤ x ∧ x ≤ 255) (n : Nat) : 0 ≤ l.getD n 0 ∧ l.getD n 0 ≤ 255 := by
  rw [List.getD_eq_getElem?_getD]
  cases e : l[n]? with
  | none => simp
  | some x =>
    exact h x (List.mem_of_getElem? e)
theorem getD_map {α β : Type} (c : α → β) (l : List α) (n : Nat) (d : α) : (l.map c).getD n (c d) = c (l.getD n d) := by
  simp only [List.getD_eq_getElem?_getD, List.getElem?_map]
  cases l[n]? <;> rfl
/-- It ends, with true just where p holds. -/
def EvB (g : Nat → Option Bool) (p : Prop) : Prop := ∃ b, Ev g b ∧ (b = true ↔ p)
theorem EvB.iff {g : Nat → Option Bool} {p q : Prop} (h : EvB g p) (h' : p ↔ q) : EvB g q := by
  obtain ⟨b, hb, ib⟩ := h
  exact ⟨b, hb, ib.trans h'⟩
theorem EvB.dec {c : Prop} [Decidable c] : EvB (fun _ => some (decide c)) c := ⟨decide c, Ev.now _, decide_eq_true_iff⟩
theorem EvB.ite {c : Prop} [Decidable c] {A : Nat → Option Bool} {p : Prop} (h : EvB A p) : EvB (fun n => if c then A n else some false) (c ∧ p) := by
  obtain ⟨b, hb, ib⟩ := h
  by_cases hc : c
  · exact ⟨b, ev_pos hc hb, ⟨fun h => ⟨hc, ib.1 h⟩, fun h => ib.2 h.2⟩⟩
  · exact ⟨false, ev_neg hc (Ev.now _), ⟨fun h => (Bool.false_ne_true h).elim, fun h => absurd h.1 hc⟩⟩
theorem EvB.ite_not {c : Prop} [Decidable c] {A : Nat → Option Bool} {p : Prop} (h : EvB A p) : EvB (fun n => if c then some false else A n) (¬ c ∧ p) := by
  obtain ⟨b, hb, ib⟩ := h
  by_cases hc : c
  · exact ⟨false, ev_pos hc (Ev.now _), ⟨fun h => (Bool.false_ne_true h).elim, fun h => absurd hc h.1⟩⟩
  · exact ⟨b, ev_neg hc hb, ⟨fun h => ⟨hc, ib.1 h⟩, fun h => ib.2 h.2⟩⟩
theorem EvB.bind {g A : Nat → Option Bool} {p q : Prop} (h : EvB g p) (h' : EvB A q) : EvB (fun n => (g n).bind fun t => if t = true then A n else some false) (p ∧ q) := by
  obtain ⟨b, hb, ib⟩ := h
  obtain ⟨c, hc, ic⟩ := h'
  cases b with
  | true => exact ⟨c, Ev.bind hb (ev_pos rfl hc), ⟨fun h => ⟨ib.1 rfl, ic.1 h⟩, fun h => ic.2 h.2⟩⟩
  | false => exact ⟨false, Ev.bind hb (ev_neg (by decide) (Ev.now _)), ⟨fun h => (Bool.false_ne_true h).elim, fun h => absurd (ib.2 h.1) (by decide)⟩⟩
theorem EvB.last {g : Nat → Option Bool} {p : Prop} (h : EvB g p) : EvB (fun n => (g n).bind fun t => some t) p := by
  obtain ⟨b, hb, ib⟩ := h
  exact ⟨b, Ev.bind hb (Ev.now _), ib⟩
theorem EvB.same {g g' : Nat → Option Bool} {p : Prop} (h : EvB g p) (h' : EvB g' p) : ∃ b, Ev g b ∧ Ev g' b ∧ (b = true ↔ p) := by
  obtain ⟨b, hb, ib⟩ := h
  obtain ⟨c, hc, ic⟩ := h'
  obtain rfl : c = b := bool_eq_of_iff ic ib
  exact ⟨c, hb, hc, ib⟩
theorem EvB.bindE {g A B : Nat → Option Bool} {p q : Prop} (hB : Ev B false) (h : EvB g p) (h' : EvB A q) : EvB (fun n => (g n).bind fun t => if t = true then A n else B n) (p ∧ q) := by
  obtain ⟨b, hb, ib⟩ := h
  obtain ⟨c, hc, ic⟩ := h'
  cases b with
  | true => exact ⟨c, Ev.bind hb (ev_pos rfl hc), ⟨fun h => ⟨ib.1 rfl, ic.1 h⟩, fun h => ic.2 h.2⟩⟩
  | false => exact ⟨false, Ev.bind hb (ev_neg (by decide) hB), ⟨fun h => (Bool.false_ne_true h).elim, fun h => absurd (ib.2 h.1) (by decide)⟩⟩
theorem EvB.iteE {c : Prop} [Decidable c] {A B : Nat → Option Bool} {p : Prop} (hB : Ev B false) (h : EvB A p) : EvB (fun n => if c then A n else B n) (c ∧ p) := by
  obtain ⟨b, hb, ib⟩ := h
  by_cases hc : c
  · exact ⟨b, ev_pos hc hb, ⟨fun h => ⟨hc, ib.1 h⟩, fun h => ib.2 h.2⟩⟩
  · exact ⟨false, ev_neg hc hB, ⟨fun h => (Bool.false_ne_true h).elim, fun h => absurd h.1 hc⟩⟩
theorem EvB.bindN {g : Nat → Option Bool} {J : Nat → Bool → Option Bool} {p q : Prop} (hB : Ev (fun n => J n true) false) (h : EvB g p) (h' : EvB (fun n => J n false) q) : EvB (fun n => (g n).bind fun t => J n (!t)) (p ∧ q) := by
  obtain ⟨b, hb, ib⟩ := h
  obtain ⟨c, hc, ic⟩ := h'
  cases b with
  | true => exact ⟨c, Ev.bind hb hc, ⟨fun h => ⟨ib.1 rfl, ic.1 h⟩, fun h => ic.2 h.2⟩⟩
  | false => exact ⟨false, Ev.bind hb hB, ⟨fun h => (Bool.false_ne_true h).elim, fun h => absurd (ib.2 h.1) (by decide)⟩⟩
theorem EvB.succ {g : Nat → Option Bool} {p : Prop} (h : EvB (fun k => g (k + 1)) p) : EvB g p := by
  obtain ⟨b, hb, ib⟩ := h
  exact ⟨b, ev_succ hb, ib⟩
theorem EvB.true_ {p : Prop} (h : p) : EvB (fun _ => some true) p := ⟨true, Ev.now _, ⟨fun _ => h, fun _ => rfl⟩⟩
theorem EvB.false_ {p : Prop} (h : ¬ p) : EvB (fun _ => some false) p := ⟨false, Ev.now _, ⟨fun e => (Bool.false_ne_true e).elim, fun e => absurd e h⟩⟩
theorem EvB.pos {c : Prop} [Decidable c] {A B : Nat → Option Bool} {p : Prop} (hc : c) (h : EvB A p) : EvB (fun n => if c then A n else B n) p := by
  simpa only [if_pos hc] using h
theorem EvB.neg {c : Prop} [Decidable c] {A B : Nat → Option Bool} {p : Prop} (hc : ¬ c) (h : EvB B p) : EvB (fun n => if c then A n else B n) p := by
  simpa only [if_neg hc] using h

/-! division of two words by a small one (math/bits.Div64, Rem64, Mul64) -/
theorem u64w {x : Int} (h0 : 0 ≤ x) (h1 : x < 18446744073709551616) : IntKind.u64.wrap x = x := by
  rw [IntKind.wrap_u64]
  omega
theorem u64m (x : Int) : IntKind.u64.wrap x = x % 18446744073709551616 := IntKind.wrap_u64 x
theorem u64n {x : Nat} (h : x < 18446744073709551616) : IntKind.u64.wrap (x : Int) = (x : Int) := u64w (by omega) (by omega)
theorem w64n {x : Nat} (h : x ≤ 9223372036854775807) : wrap64 (x : Int) = (x : Int) := w64 (by omega) (by omega)
theorem pow_le64 {k : Nat} (h : k ≤ 63) : (2 : Nat) ^ k ≤ 9223372036854775808 := Nat.pow_le_pow_right (by decide) h
theorem bitlen_eq {y k : Nat} (h0 : 2 ^ k ≤ y) (h1 : y < 2 ^ (k + 1)) (h : y < 2 ^ 64) : Lib.bitLen y = k + 1 := by
  have e : y / 2 ^ k = 1 := by
    have hp := Nat.two_pow_pos k
    rw [Nat.pow_succ] at h1
    refine Nat.le_antisymm ?_ ?_
    · have := (Nat.div_lt_iff_lt_mul hp).2 (show y < 2 * 2 ^ k by omega)
      omega
    · exact (Nat.le_div_iff_mul_le hp).2 (by omega)
  rw [Lib.bitLen_shift k y h0 h, e]
  rfl
theorem or_add {a b s : Nat} (hb : b < 2 ^ s) (h : a * 2 ^ s + b < 18446744073709551616) : Go.bits .or .u64 ((a * 2 ^ s : Nat) : Int) (b : Int) = ((a * 2 ^ s + b : Nat) : Int) := by
  show IntKind.u64.wrap ((BitVec.ofInt 64 ((a * 2 ^ s : Nat) : Int) ||| BitVec.ofInt 64 (b : Int)).toNat : Int) = _
  have h1 : (BitVec.ofInt 64 ((a * 2 ^ s : Nat) : Int)).toNat = a * 2 ^ s := by
    rw [BitVec.ofInt_natCast, BitVec.toNat_ofNat, Nat.mod_eq_of_lt (by omega)]
  have h2 : (BitVec.ofInt 64 (b : Int)).toNat = b := by
    rw [BitVec.ofInt_natCast, BitVec.toNat_ofNat, Nat.mod_eq_of_lt (by omega)]
  rw [BitVec.toNat_or, h1, h2, Nat.mul_comm a, ← Nat.two_pow_add_eq_or_of_lt hb]
  rw [Nat.mul_comm] at h
  exact u64w (by omega) (by omega)
/-- both rounds, when the low half of the divisor is nought -/
theorem div64_loop (s yn1 un32 un1 un0 : Int) (hs : 0 ≤ s) (b0 : 0 < yn1) (b1 : yn1 < 4294967296) (c0 : 0 ≤ un32) (c1 : un32 < yn1 * 4294967296) (d0 : 0 ≤ un1) (d1 : un1 < 4294967296) (e0 : 0 ≤ un0) (e1 : un0 < 4294967296) :
    Ev (fun k => bits_Div64.l0 k (yn1 * 4294967296) s yn1 0 un32 un1 un0 (un32 / yn1) (un32 % yn1)) (un32 / yn1 * 4294967296 + (un32 % yn1 * 4294967296 + un1) / yn1, shr .u64 ((un32 % yn1 * 4294967296 + un1) % yn1 * 4294967296 + un0) s) := by
  have q1d := Int.mul_ediv_add_emod un32 yn1
  have r1n := Int.emod_nonneg un32 (show yn1 ≠ 0 by omega)
  have r1l := Int.emod_lt_of_pos un32 b0
  have q1n : 0 ≤ un32 / yn1 := Int.ediv_nonneg c0 (by omega)
  have q1l : un32 / yn1 < 4294967296 := Int.ediv_lt_of_lt_mul b0 (by omega)
  generalize un32 / yn1 = q1 at *
  generalize un32 % yn1 = r1 at *
  have u2n : 0 ≤ r1 * 4294967296 + un1 := by omega
  have u2l : r1 * 4294967296 + un1 < yn1 * 4294967296 := by omega
  have q0d := Int.mul_ediv_add_emod (r1 * 4294967296 + un1) yn1
  have r0n := Int.emod_nonneg (r1 * 4294967296 + un1) (show yn1 ≠ 0 by omega)
  have r0l := Int.emod_lt_of_pos (r1 * 4294967296 + un1) b0
  have q0n : 0 ≤ (r1 * 4294967296 + un1) / yn1 := Int.ediv_nonneg u2n (by omega)
  have q0l : (r1 * 4294967296 + un1) / yn1 < 4294967296 := Int.ediv_lt_of_lt_mul b0 (by omega)
  have y1 : q1 * (yn1 * 4294967296) = (yn1 * q1) * 4294967296 := by rw [← Int.mul_assoc, Int.mul_comm q1]
  have hu2 : IntKind.u64.wrap (IntKind.u64.wrap (IntKind.u64.wrap (un32 * 4294967296) + un1) - IntKind.u64.wrap (q1 * (yn1 * 4294967296))) = r1 * 4294967296 + un1 := by
    rw [y1]
    generalize yn1 * q1 = A at *
    simp only [u64m]
    omega
  have ht : Int.tdiv (r1 * 4294967296 + un1) yn1 = (r1 * 4294967296 + un1) / yn1 := Int.tdiv_eq_ediv_of_nonneg u2n
  generalize hq0 : (r1 * 4294967296 + un1) / yn1 = q0 at *
  generalize (r1 * 4294967296 + un1) % yn1 = r0 at *
  have y0 : q0 * (yn1 * 4294967296) = (yn1 * q0) * 4294967296 := by rw [← Int.mul_assoc, Int.mul_comm q0]
  have hrem : IntKind.u64.wrap (IntKind.u64.wrap (IntKind.u64.wrap ((r1 * 4294967296 + un1) * 4294967296) + un0) - IntKind.u64.wrap (q0 * (yn1 * 4294967296))) = r0 * 4294967296 + un0 := by
    rw [y0]
    generalize yn1 * q0 = A at *
    simp only [u64m]
    omega
  have hquo : IntKind.u64.wrap (IntKind.u64.wrap (q1 * 4294967296) + q0) = q1 * 4294967296 + q0 := by
    simp only [u64m]
    omega
  have w0 : ∀ x : Int, decide (IntKind.u64.wrap (x * 0) > IntKind.u64.wrap (IntKind.u64.wrap (4294967296 * r1) + un1)) = false := by
    intro x
    rw [Int.mul_zero]
    simp only [u64m]
    exact decide_eq_false (by omega)
  have w1 : ∀ x t : Int, decide (IntKind.u64.wrap (x * 0) > IntKind.u64.wrap (IntKind.u64.wrap (4294967296 * t) + un0)) = false := by
    intro x t
    rw [Int.mul_zero]
    simp only [u64m]
    exact decide_eq_false (by omega)
  refine ev_succ ?_
  simp only [bits_Div64.l0, w0]
  refine ev_neg (by omega) (ev_succ ?_)
  simp only [bits_Div64.j1]
  refine ev_neg (by decide) (ev_succ ?_)
  simp only [bits_Div64.j2, hu2, ht]
  rw [u64w (x := q0) q0n (by omega)]
  refine ev_neg (by omega) (ev_succ ?_)
  simp only [bits_Div64.l1, w1]
  refine ev_neg (by omega) (ev_succ ?_)
  simp only [bits_Div64.j4, hrem, hquo]
  exact ev_neg (by decide) (ev_pos hs (Ev.now _))
theorem div_core2 {N P y yn1 un32 un10 q1 r1 q0 r0 : Nat} (hp : 0 < P) (whole : N * P = un32 * 18446744073709551616 + un10) (hy : y * P = yn1 * 4294967296) (h0 : 0 < yn1) (a1 : yn1 * q1 + r1 = un32) (a3 : yn1 * q0 + r0 = r1 * 4294967296 + un10 / 4294967296) (a4 : r0 < yn1) :
    q1 * 4294967296 + q0 = N / y ∧ (r0 * 4294967296 + un10 % 4294967296) / P = N % y := by
  have e : N * P = (q1 * 4294967296 + q0) * (y * P) + (r0 * 4294967296 + un10 % 4294967296) := by
    rw [whole, hy, Nat.add_mul]
    have e1 : q1 * 4294967296 * (yn1 * 4294967296) = yn1 * q1 * 18446744073709551616 := by
      rw [show (18446744073709551616 : Nat) = 4294967296 * 4294967296 from rfl]; ac_rfl
    have e2 : q0 * (yn1 * 4294967296) = yn1 * q0 * 4294967296 := by ac_rfl
    rw [e1, e2]
    generalize yn1 * q1 = A at *
    generalize yn1 * q0 = B at *
    omega
  have hR : r0 * 4294967296 + un10 % 4294967296 < y * P := by rw [hy]; omega
  have hyP : 0 < y * P := by omega
  constructor
  · have : N * P / (y * P) = q1 * 4294967296 + q0 := by
      rw [e, Nat.mul_comm (q1 * 4294967296 + q0), Nat.mul_add_div hyP, Nat.div_eq_of_lt hR, Nat.add_zero]
    rw [← this, Nat.mul_div_mul_right _ _ hp]
  · have : N * P % (y * P) = r0 * 4294967296 + un10 % 4294967296 := by
      rw [e, Nat.mul_comm (q1 * 4294967296 + q0), Nat.mul_add_mod, Nat.mod_eq_of_lt hR]
    rw [← this, Nat.mul_mod_mul_right, Nat.mul_div_cancel _ hp]
theorem div_core {hi lo y P Q : Nat} (hP : P * Q = 18446744073709551616) (hh : hi < y) (hl : lo < 18446744073709551616) {yn1 : Nat} (hy : y * P = yn1 * 4294967296) (h0 : 0 < yn1) (h1 : yn1 < 4294967296) :
    (hi * P + lo / Q) < yn1 * 4294967296 ∧
    (hi * P + lo / Q) / yn1 * 4294967296 + ((hi * P + lo / Q) % yn1 * 4294967296 + lo * P % 18446744073709551616 / 4294967296) / yn1 = (hi * 18446744073709551616 + lo) / y ∧
    (((hi * P + lo / Q) % yn1 * 4294967296 + lo * P % 18446744073709551616 / 4294967296) % yn1 * 4294967296 + lo * P % 18446744073709551616 % 4294967296) / P = (hi * 18446744073709551616 + lo) % y := by
  have hp : 0 < P := by
    rcases Nat.eq_zero_or_pos P with h | h
    · rw [h, Nat.zero_mul] at hP; omega
    · exact h
  have hq : 0 < Q := by
    rcases Nat.eq_zero_or_pos Q with h | h
    · rw [h, Nat.mul_zero] at hP; omega
    · exact h
  have hlq : lo / Q < P := (Nat.div_lt_iff_lt_mul hq).2 (by omega)
  have hun : hi * P + lo / Q < yn1 * 4294967296 := by
    rw [← hy]
    have : (hi + 1) * P ≤ y * P := Nat.mul_le_mul_right P hh
    rw [Nat.add_mul, Nat.one_mul] at this
    omega
  refine ⟨hun, ?_⟩
  have elo : lo * P % 18446744073709551616 = lo % Q * P := by
    rw [← hP, Nat.mul_comm P Q, Nat.mul_mod_mul_right]
  have whole : (hi * 18446744073709551616 + lo) * P = (hi * P + lo / Q) * 18446744073709551616 + lo % Q * P := by
    have e := Nat.div_add_mod lo Q
    have e2 : lo * P = lo / Q * 18446744073709551616 + lo % Q * P := by
      rw [← hP]
      calc lo * P = (Q * (lo / Q) + lo % Q) * P := by rw [e]
        _ = lo / Q * (P * Q) + lo % Q * P := by rw [Nat.add_mul]; congr 1; ac_rfl
    rw [Nat.add_mul, Nat.add_mul, e2]
    have : hi * 18446744073709551616 * P = hi * P * 18446744073709551616 := by ac_rfl
    omega
  rw [elo]
  exact div_core2 hp whole hy h0 (Nat.div_add_mod _ _) (Nat.div_add_mod _ _) (Nat.mod_lt _ h0)
theorem div64_ev {hi lo y : Nat} (hy : y ≤ 1000000) (hh : hi < y) (hl : lo < 18446744073709551616) : Ev (fun k => bits_Div64.f k (hi : Int) (lo : Int) (y : Int)) ((((hi * 18446744073709551616 + lo) / y : Nat) : Int), (((hi * 18446744073709551616 + lo) % y : Nat) : Int)) := by
  unfold bits_Div64.f
  refine ev_neg (by omega) (ev_neg (by omega) ?_)
  by_cases hz : hi = 0
  · subst hz
    refine ev_pos rfl ?_
    have e1 : Int.tdiv (lo : Int) (y : Int) = ((lo / y : Nat) : Int) := rfl
    have e2 : Int.tmod (lo : Int) (y : Int) = ((lo % y : Nat) : Int) := rfl
    have hd : lo / y ≤ lo := Nat.div_le_self lo y
    rw [e1, e2, u64n (by omega), Nat.zero_mul, Nat.zero_add]
    exact Ev.now _
  refine ev_neg (by omega) ?_
  have hy0 : y ≠ 0 := by omega
  have k0 := Nat.log2_self_le hy0
  have k1 : y < 2 ^ (y.log2 + 1) := Nat.lt_log2_self
  generalize y.log2 = k at k0 k1
  have k20 : k < 20 := by
    rcases Nat.lt_or_ge k 20 with h | h
    · exact h
    · have := Nat.pow_le_pow_right (n := 2) (by decide) h
      have e : (2 : Nat) ^ 20 = 1048576 := by decide
      omega
  have h64 : (2 : Nat) ^ 64 = 18446744073709551616 := by decide
  have hb : bits_LeadingZeros64.f (y : Int) = some (((63 - k : Nat) : Int)) := by
    unfold bits_LeadingZeros64.f bits_Len64.f
    rw [if_pos (by omega), if_pos (by omega), Int.toNat_natCast, bitlen_eq k0 k1 (by omega)]
    simp only [Option.bind_some]
    rw [w64 (by omega) (by omega)]
    congr 1
    omega
  simp only [hb, Option.bind_some]
  have hP : 2 ^ (63 - k) * 2 ^ (k + 1) = 18446744073709551616 := by
    rw [← Nat.pow_add, show 63 - k + (k + 1) = 64 by omega]
  have hyP : y * 2 ^ (63 - k) = y * 2 ^ (31 - k) * 4294967296 := by
    rw [Nat.mul_assoc, show (4294967296 : Nat) = 2 ^ 32 from rfl, ← Nat.pow_add, show 31 - k + 32 = 63 - k by omega]
  have hn1 : y * 2 ^ (31 - k) < 4294967296 := by
    have := Nat.mul_lt_mul_of_pos_right k1 (Nat.two_pow_pos (31 - k))
    rw [← Nat.pow_add, show k + 1 + (31 - k) = 32 by omega] at this
    exact this
  have hn0 : 0 < y * 2 ^ (31 - k) := Nat.mul_pos (by omega) (Nat.two_pow_pos _)
  obtain ⟨c1, c2, c3⟩ := div_core hP hh hl hyP hn0 hn1
  have w1 : IntKind.u64.wrap (((63 - k : Nat) : Int)) = ((63 - k : Nat) : Int) := u64w (by omega) (by omega)
  have w2 : IntKind.u64.wrap (64 - (((63 - k : Nat) : Int))) = ((k + 1 : Nat) : Int) := by rw [u64w (by omega) (by omega)]; omega
  have hbits : IntKind.u64.bits = 64 := rfl
  have ml : ∀ x s : Nat, s ≤ 64 → shl .u64 (x : Int) (s : Int) = ((x * 2 ^ s % 18446744073709551616 : Nat) : Int) := by
    intro x s h
    unfold shl
    have e : (x : Int) * 2 ^ s = ((x * 2 ^ s : Nat) : Int) := by rw [Int.natCast_mul, Int.natCast_pow]; rfl
    rw [hbits, Int.toNat_natCast, Nat.min_eq_left h, u64m, e]
    rfl
  have mr : ∀ x s : Nat, s ≤ 64 → shr .u64 (x : Int) (s : Int) = ((x / 2 ^ s : Nat) : Int) := by
    intro x s h
    unfold shr
    have e : (2 : Int) ^ s = ((2 ^ s : Nat) : Int) := by rw [Int.natCast_pow]; rfl
    rw [hbits, Int.toNat_natCast, Nat.min_eq_left h, e]
    rfl
  have hhP : hi * 2 ^ (63 - k) < 18446744073709551616 := by
    have := Nat.le_add_right (hi * 2 ^ (63 - k)) (lo / 2 ^ (k + 1))
    omega
  have hlo : lo / 2 ^ (k + 1) < 2 ^ (63 - k) := (Nat.div_lt_iff_lt_mul (Nat.two_pow_pos _)).2 (by omega)
  have e1 : y * 2 ^ (63 - k) % 18446744073709551616 = y * 2 ^ (31 - k) * 4294967296 := by rw [hyP]; exact Nat.mod_eq_of_lt (by omega)
  have e2 : hi * 2 ^ (63 - k) % 18446744073709551616 = hi * 2 ^ (63 - k) := Nat.mod_eq_of_lt hhP
  have sh1 : shl .u64 (y : Int) ((63 - k : Nat) : Int) = ((y * 2 ^ (31 - k) : Nat) : Int) * 4294967296 := by
    rw [ml y (63 - k) (by omega), e1]
    omega
  have sh2 : shl .u64 (hi : Int) ((63 - k : Nat) : Int) = ((hi * 2 ^ (63 - k) : Nat) : Int) := by rw [ml hi (63 - k) (by omega), e2]
  have sh3 := ml lo (63 - k) (by omega)
  have sh4 := mr lo (k + 1) (by omega)
  have hor := or_add (a := hi) hlo (by omega)
  simp only [w1, w2, sh1, sh2, sh3, sh4, hor]
  have d1 : ((y * 2 ^ (31 - k) : Nat) : Int) * 4294967296 / 4294967296 = ((y * 2 ^ (31 - k) : Nat) : Int) := Int.mul_ediv_cancel _ (by decide)
  have d2 : Go.bits .and .u64 (((y * 2 ^ (31 - k) : Nat) : Int) * 4294967296) 4294967295 = 0 := by rw [and_low32 _ (by omega) (by omega)]; omega
  have d3 : Go.bits .and .u64 ((lo * 2 ^ (63 - k) % 18446744073709551616 : Nat) : Int) 4294967295 = ((lo * 2 ^ (63 - k) % 18446744073709551616 % 4294967296 : Nat) : Int) := by rw [and_low32 _ (by omega) (by omega)]; omega
  have d4 : ((lo * 2 ^ (63 - k) % 18446744073709551616 : Nat) : Int) / 4294967296 = ((lo * 2 ^ (63 - k) % 18446744073709551616 / 4294967296 : Nat) : Int) := by omega
  simp only [d1, d2, d3, d4]
  generalize hi * 2 ^ (63 - k) + lo / 2 ^ (k + 1) = un32 at *
  generalize y * 2 ^ (31 - k) = yn1 at *
  have hu10 : lo * 2 ^ (63 - k) % 18446744073709551616 < 18446744073709551616 := Nat.mod_lt _ (by decide)
  generalize lo * 2 ^ (63 - k) % 18446744073709551616 = un10 at *
  have t1 : Int.tdiv (un32 : Int) (yn1 : Int) = (un32 : Int) / (yn1 : Int) := Int.tdiv_eq_ediv_of_nonneg (by omega)
  have hq : un32 / yn1 ≤ un32 := Nat.div_le_self _ _
  have hq' : (un32 : Int) / (yn1 : Int) = ((un32 / yn1 : Nat) : Int) := rfl
  have t2 : IntKind.u64.wrap ((un32 : Int) / (yn1 : Int)) = (un32 : Int) / (yn1 : Int) := by rw [hq']; exact u64w (by omega) (by omega)
  have t3 : IntKind.u64.wrap ((un32 : Int) - IntKind.u64.wrap ((un32 : Int) / (yn1 : Int) * (yn1 : Int))) = (un32 : Int) % (yn1 : Int) := by
    have a := Int.mul_ediv_add_emod (un32 : Int) (yn1 : Int)
    have a2 := Int.emod_nonneg (un32 : Int) (show (yn1 : Int) ≠ 0 by omega)
    have a3 := Int.emod_lt_of_pos (un32 : Int) (show 0 < (yn1 : Int) by omega)
    have a4 : 0 ≤ (un32 : Int) / (yn1 : Int) * (yn1 : Int) := Int.mul_nonneg (Int.ediv_nonneg (by omega) (by omega)) (by omega)
    rw [Int.mul_comm] at a
    rw [u64w (x := (un32 : Int) / (yn1 : Int) * (yn1 : Int)) (by omega) (by omega), u64w (by omega) (by omega)]
    omega
  simp only [t1, t2, t3]
  have main := div64_loop ((63 - k : Nat) : Int) (yn1 : Int) (un32 : Int) ((un10 / 4294967296 : Nat) : Int) ((un10 % 4294967296 : Nat) : Int) (by omega) (by omega) (by omega) (by omega) (by omega) (by omega) (by omega) (by omega) (by omega)
  have r1 : (un32 : Int) / (yn1 : Int) * 4294967296 + ((un32 : Int) % (yn1 : Int) * 4294967296 + ((un10 / 4294967296 : Nat) : Int)) / (yn1 : Int) = (((hi * 18446744073709551616 + lo) / y : Nat) : Int) := by
    rw [← c2]
    rfl
  have r2 : shr .u64 (((un32 : Int) % (yn1 : Int) * 4294967296 + ((un10 / 4294967296 : Nat) : Int)) % (yn1 : Int) * 4294967296 + ((un10 % 4294967296 : Nat) : Int)) ((63 - k : Nat) : Int) = (((hi * 18446744073709551616 + lo) % y : Nat) : Int) := by
    rw [← c3, ← mr _ _ (by omega)]
    rfl
  rw [r1, r2] at main
  exact ev_pos (by omega) (ev_pos (by omega) (ev_neg (by omega) main))
theorem rem64_ev {hi lo y : Nat} (hy : y ≤ 1000000) (h0 : 0 < y) (hl : lo < 18446744073709551616) : Ev (fun k => bits_Rem64.f k (hi : Int) (lo : Int) (y : Int)) (((hi * 18446744073709551616 + lo) % y : Nat) : Int) := by
  unfold bits_Rem64.f
  have e : Int.tmod (hi : Int) (y : Int) = ((hi % y : Nat) : Int) := rfl
  rw [e]
  have h := div64_ev (lo := lo) hy (Nat.mod_lt hi h0) hl
  have e2 : (hi % y * 18446744073709551616 + lo) % y = (hi * 18446744073709551616 + lo) % y := by
    rw [Nat.add_mod, Nat.mul_mod, Nat.mod_mod, ← Nat.mul_mod, ← Nat.add_mod]
  rw [e2] at h
  exact ev_neg (by omega) (Ev.bind h (Ev.now _))
theorem mul64_eq {x y : Nat} (hx : x < 18446744073709551616) (hy : y < 18446744073709551616) : bits_Mul64.f (x : Int) (y : Int) = some (((x * y / 18446744073709551616 : Nat) : Int), ((x * y % 18446744073709551616 : Nat) : Int)) := by
  have h := mul64_arith (x : Int) (y : Int) (by omega) (by omega) (by omega) (by omega)
  unfold bits_Mul64.f
  rw [and_low32 (x : Int) (by omega) (by omega), and_low32 (y : Int) (by omega) (by omega)]
  rw [and_low32 _ (by simp only [u64m]; omega) (by simp only [u64m]; omega)]
  simp only [u64m]
  rw [h, ← Int.natCast_mul]
  rfl

theorem tmod_nat (a b : Nat) : Int.tmod (a : Int) (b : Int) = ((a % b : Nat) : Int) := rfl
theorem impl_gcd_loop : ∀ (m : Nat) (a b : Int), b.natAbs = m → a.natAbs ≤ 9223372036854775807 → b.natAbs ≤ 9223372036854775807 → Ev (fun k => impl_gcd.l0 k a b) ((Nat.gcd a.natAbs b.natAbs : Nat) : Int) := by
  intro m
  induction m using Nat.strongRecOn with
  | _ m ih =>
    intro a b hm ha hb
    refine ev_succ ?_
    simp only [impl_gcd.l0, impl_size.f, Option.bind_some]
    by_cases h0 : b = 0
    · subst h0
      rw [Int.natAbs_zero, Nat.gcd_zero_right]
      have e : mx a (wrap64 (-a)) = (a.natAbs : Int) := by
        rw [w64 (by omega) (by omega)]
        unfold mx
        split <;> omega
      rw [e]
      exact ev_pos (by trivial) (Ev.now _)
    · have e : (Int.tmod a b).natAbs = a.natAbs % b.natAbs := Int.natAbs_tmod a b
      have hlt : a.natAbs % b.natAbs < b.natAbs := Nat.mod_lt _ (by omega)
      have := ih (Int.tmod a b).natAbs (by omega) b (Int.tmod a b) rfl hb (by omega)
      rw [e] at this
      rw [Nat.gcd_comm a.natAbs b.natAbs, Nat.gcd_rec b.natAbs a.natAbs, Nat.gcd_comm]
      exact ev_neg h0 this

def AllIn (l : List Int) (lo hi : Int) : Prop := ∀ n, n < l.length → lo ≤ l.getD n 0 ∧ l.getD n 0 ≤ hi
def Rise (l : List Int) : Prop := ∀ n, n + 1 < l.length → l.getD n 0 < l.getD (n + 1) 0

theorem impl_in_eq (a b c : Int) : impl_in.f a b c = some (decide (b ≤ a ∧ a ≤ c)) := by
  unfold impl_in.f
  split
  · congr 1
    rw [decide_eq_decide]
    omega
  · congr 1
    symm
    rw [decide_eq_false_iff_not]
    omega
theorem impl_in_evB (a b c : Int) : EvB (fun _ => impl_in.f a b c) (b ≤ a ∧ a ≤ c) := by
  rw [impl_in_eq]
  exact EvB.dec

theorem impl_all_loop (l : List Int) (lo hi : Int) (hx : l.length ≤ 9223372036854775807) : ∀ (d n : Nat), n + d = l.length → (∀ m, m < n → lo ≤ l.getD m 0 ∧ l.getD m 0 ≤ hi) → ∃ b, Ev (fun k => impl_allIn.l0 k lo hi l (l.length : Int) (n : Int)) b ∧ (b = true ↔ AllIn l lo hi) := by
  intro d
  induction d with
  | zero =>
    intro n hn hm
    refine ⟨true, ?_, ⟨fun _ m h => hm m (by omega), fun _ => rfl⟩⟩
    refine ev_succ ?_
    simp only [impl_allIn.l0]
    exact ev_neg (by omega) (Ev.now _)
  | succ d ih =>
    intro n hn hm
    by_cases h : lo ≤ l.getD n 0 ∧ l.getD n 0 ≤ hi
    · obtain ⟨b, hb, hiff⟩ := ih (n + 1) (by omega) (fun m hm' => by
        by_cases e : m = n
        · subst e; exact h
        · exact hm m (by omega))
      refine ⟨b, ?_, hiff⟩
      refine ev_succ ?_
      simp only [impl_allIn.l0, impl_in_eq, Option.bind_some]
      refine ev_pos (by omega) (ev_pos (by omega) (ev_pos (by omega) (ev_pos (by rw [rd_nat]; simpa using h) ?_)))
      rw [w64_succ (m := l.length) (by omega) hx]
      exact hb
    · refine ⟨false, ?_, ⟨fun h' => (Bool.false_ne_true h').elim, fun h' => absurd (h' n (by omega)) h⟩⟩
      refine ev_succ ?_
      simp only [impl_allIn.l0, impl_in_eq, Option.bind_some]
      exact ev_pos (by omega) (ev_pos (by omega) (ev_pos (by omega) (ev_neg (by rw [rd_nat]; simpa using h) (Ev.now _))))
theorem impl_all_ev (l : List Int) (lo hi : Int) (hx : l.length ≤ 9223372036854775807) : ∃ b, Ev (fun k => impl_allIn.f k l lo hi) b ∧ (b = true ↔ AllIn l lo hi) := by
  unfold impl_allIn.f
  exact impl_all_loop l lo hi hx l.length 0 (by omega) (fun m h => by omega)

def pN (n d b : Nat) : Nat := n * (b / Nat.gcd d b) + d / Nat.gcd d b
def pT (n d b : Nat) : Nat := Nat.gcd (pN n d b) (Nat.gcd d b)
def pD (n d b : Nat) : Nat := d / pT n d b * (b / Nat.gcd d b)
/-- a fraction and 1 by b together, in lowest terms -/
def plus (n d b : Nat) : Int × Int × Bool := if pN n d b / pT n d b ≤ 1000000000000000 ∧ pD n d b ≤ 1000000000000000 then (((pN n d b / pT n d b : Nat) : Int), ((pD n d b : Nat) : Int), true) else (0, 0, false)
theorem plus_bad {n d b : Nat} (h : ¬ (pN n d b / pT n d b ≤ 1000000000000000 ∧ pD n d b ≤ 1000000000000000)) : plus n d b = (0, 0, false) := if_neg h
theorem gcd_cast (a b : Nat) : Nat.gcd (a : Int).natAbs (b : Int).natAbs = Nat.gcd a b := by rw [Int.natAbs_natCast, Int.natAbs_natCast]
theorem gcd_ev (a b : Nat) (ha : a ≤ 9223372036854775807) (hb : b ≤ 9223372036854775807) : Ev (fun k => impl_gcd.f k (a : Int) (b : Int)) ((Nat.gcd a b : Nat) : Int) := by
  unfold impl_gcd.f
  have h := impl_gcd_loop b (a : Int) (b : Int) (Int.natAbs_natCast b) (by omega) (by omega)
  rw [gcd_cast] at h
  exact h
theorem add64_eq (a c : Nat) : add64s (a : Int) (c : Int) = (((a + c) % 18446744073709551616 : Nat) : Int) ∧ add64c (a : Int) (c : Int) = (((a + c) / 18446744073709551616 : Nat) : Int) := by
  unfold add64s add64c
  rw [Int.toNat_natCast, Int.toNat_natCast]
  exact ⟨rfl, rfl⟩
theorem carry_hi (a c : Nat) : a / 18446744073709551616 + (a % 18446744073709551616 + c) / 18446744073709551616 = (a + c) / 18446744073709551616 := by omega
theorem carry_lo (a c : Nat) : (a % 18446744073709551616 + c) % 18446744073709551616 = (a + c) % 18446744073709551616 := by omega
theorem hi_lo (a : Nat) : a / 18446744073709551616 * 18446744073709551616 + a % 18446744073709551616 = a := by omega
theorem quo_nat (a b : Nat) : Int.tdiv (a : Int) (b : Int) = ((a / b : Nat) : Int) := rfl
structure PB (n d b : Nat) : Prop where
  hn : n ≤ 1000000000000000
  hd : 1 ≤ d ∧ d ≤ 1000000000000000
  hb : 1 ≤ b ∧ b ≤ 1000000
theorem pb_gcd {n d b : Nat} (h : PB n d b) : 1 ≤ Nat.gcd d b ∧ Nat.gcd d b ≤ 1000000 ∧ 1 ≤ b / Nat.gcd d b ∧ b / Nat.gcd d b ≤ 1000000 ∧ 1 ≤ d / Nat.gcd d b ∧ d / Nat.gcd d b ≤ 1000000000000000 := by
  have hb := h.hb
  have hd := h.hd
  have g0 : 0 < Nat.gcd d b := Nat.gcd_pos_of_pos_right d (by omega)
  have g1 : Nat.gcd d b ≤ b := Nat.gcd_le_right d (by omega)
  have g2 : Nat.gcd d b ≤ d := Nat.gcd_le_left b (by omega)
  have u1 : 0 < b / Nat.gcd d b := Nat.div_pos g1 g0
  have u2 : b / Nat.gcd d b ≤ b := Nat.div_le_self _ _
  have u3 : 0 < d / Nat.gcd d b := Nat.div_pos g2 g0
  have u4 : d / Nat.gcd d b ≤ d := Nat.div_le_self _ _
  omega
theorem pb_pt {n d b : Nat} (h : PB n d b) : 1 ≤ pT n d b ∧ pT n d b ≤ Nat.gcd d b ∧ pT n d b ∣ pN n d b ∧ pT n d b ∣ d ∧ pT n d b ∣ b := by
  have g := pb_gcd h
  have t0 : 0 < pT n d b := Nat.gcd_pos_of_pos_right _ (by omega)
  have t1 : pT n d b ∣ Nat.gcd d b := Nat.gcd_dvd_right _ _
  exact ⟨t0, Nat.le_of_dvd (by omega) t1, Nat.gcd_dvd_left _ _, Nat.dvd_trans t1 (Nat.gcd_dvd_left d b), Nat.dvd_trans t1 (Nat.gcd_dvd_right d b)⟩
theorem pb_N {n d b : Nat} (h : PB n d b) : pN n d b < 2000000000000000000000 := by
  have g := pb_gcd h
  have hn := h.hn
  have m : n * (b / Nat.gcd d b) ≤ 1000000000000000 * 1000000 := Nat.mul_le_mul hn (by omega)
  unfold pN
  omega
theorem addpart_ev {n d b : Nat} (h : PB n d b) : Ev (fun k => impl_addPart.f k (n : Int) (d : Int) (b : Int)) (plus n d b) := by
  have hn := h.hn
  have hd := h.hd
  have hb := h.hb
  obtain ⟨g0, g1, u0, u1, w0, w1⟩ := pb_gcd h
  obtain ⟨t0, t1, _⟩ := pb_pt h
  have hN := pb_N h
  have hg := gcd_ev d b (by omega) (by omega)
  unfold impl_addPart.f
  refine Ev.bind hg (ev_neg (by omega) ?_)
  have hmod : Nat.gcd (pN n d b % Nat.gcd d b) (Nat.gcd d b) = pT n d b := by
    unfold pT
    rw [← Nat.gcd_rec, Nat.gcd_comm]
  have hmul := mul64_eq (x := n) (y := b / Nat.gcd d b) (by omega) (by omega)
  have eup : wrap64 (Int.tdiv (b : Int) ((Nat.gcd d b : Nat) : Int)) = ((b / Nat.gcd d b : Nat) : Int) := by rw [quo_nat]; exact w64n (by omega)
  have edn : wrap64 (Int.tdiv (d : Int) ((Nat.gcd d b : Nat) : Int)) = ((d / Nat.gcd d b : Nat) : Int) := by rw [quo_nat]; exact w64n (by omega)
  have c0 : ∀ x : Nat, x < 18446744073709551616 → IntKind.u64.wrap (x : Int) = (x : Int) := fun x hx => u64w (by omega) (by omega)
  have hmod2 : pN n d b % Nat.gcd d b < Nat.gcd d b := Nat.mod_lt _ (by omega)
  have hgt := gcd_ev (pN n d b % Nat.gcd d b) (Nat.gcd d b) (by omega) (by omega)
  rw [hmod] at hgt
  have hrem := rem64_ev (hi := pN n d b / 18446744073709551616) (lo := pN n d b % 18446744073709551616) (y := Nat.gcd d b) g1 (by omega) (Nat.mod_lt _ (by decide))
  rw [hi_lo] at hrem
  have hND : ∀ x : Nat, x = n * (b / Nat.gcd d b) → x + d / Nat.gcd d b = pN n d b := by intro x hx; rw [hx]; rfl
  simp only [eup, edn, c0 n (Nat.lt_of_le_of_lt hn (by decide)), c0 _ (Nat.lt_of_le_of_lt u1 (by decide)), c0 _ (Nat.lt_of_le_of_lt w1 (by decide)), c0 _ (Nat.lt_of_le_of_lt g1 (by decide)), hmul, Option.bind_some, add64_eq, carry_lo]
  rw [hND _ rfl]
  have ehi : IntKind.u64.wrap (((n * (b / Nat.gcd d b) / 18446744073709551616 : Nat) : Int) + (((n * (b / Nat.gcd d b) % 18446744073709551616 + d / Nat.gcd d b) / 18446744073709551616 : Nat) : Int)) = ((pN n d b / 18446744073709551616 : Nat) : Int) := by
    rw [← Int.natCast_add, carry_hi, hND _ rfl]
    exact c0 _ (by omega)
  simp only [ehi]
  have ew : wrap64 (((pN n d b % Nat.gcd d b : Nat) : Int)) = ((pN n d b % Nat.gcd d b : Nat) : Int) := w64 (by omega) (by omega)
  refine Ev.bind hrem ?_
  simp only [ew]
  refine Ev.bind hgt ?_
  simp only [c0 _ (show pT n d b < 18446744073709551616 by omega)]
  by_cases hov : pT n d b ≤ pN n d b / 18446744073709551616
  · rw [plus_bad]
    · exact ev_pos (by omega) (Ev.now _)
    · intro hc
      have h1 : pT n d b * 18446744073709551616 ≤ pN n d b := by
        have := Nat.mul_le_mul_right 18446744073709551616 hov
        omega
      have h2 : 18446744073709551616 ≤ pN n d b / pT n d b := (Nat.le_div_iff_mul_le (by omega)).2 (by rw [Nat.mul_comm]; exact h1)
      omega
  have hdiv := div64_ev (hi := pN n d b / 18446744073709551616) (lo := pN n d b % 18446744073709551616) (y := pT n d b) (by omega) (by omega) (Nat.mod_lt _ (by decide))
  rw [hi_lo] at hdiv
  refine ev_neg (by omega) (Ev.bind hdiv (ev_neg (by omega) ?_))
  have hdt : d / pT n d b ≤ d := Nat.div_le_self _ _
  have hm2 := mul64_eq (x := d / pT n d b) (y := b / Nat.gcd d b) (Nat.lt_of_le_of_lt (Nat.le_trans hdt hd.2) (by decide)) (Nat.lt_of_le_of_lt u1 (by decide))
  simp only [c0 d (Nat.lt_of_le_of_lt hd.2 (by decide)), quo_nat, c0 _ (Nat.lt_of_le_of_lt (Nat.le_trans hdt hd.2) (show 1000000000000000 < 18446744073709551616 by decide)), hm2, Option.bind_some]
  have epd : d / pT n d b * (b / Nat.gcd d b) = pD n d b := by unfold pD; rfl
  rw [epd]
  by_cases h1 : 18446744073709551616 ≤ pD n d b
  · rw [plus_bad (by omega)]
    exact ev_pos (by have : 0 < pD n d b / 18446744073709551616 := Nat.div_pos h1 (by decide)
                     omega) (Ev.now _)
  have e1 : pD n d b / 18446744073709551616 = 0 := Nat.div_eq_of_lt (by omega)
  have e2 : pD n d b % 18446744073709551616 = pD n d b := Nat.mod_eq_of_lt (by omega)
  rw [e1, e2]
  refine ev_neg (by decide) ?_
  by_cases h2 : pN n d b / pT n d b ≤ 1000000000000000
  rotate_left
  · rw [plus_bad (by omega)]
    exact ev_pos (by omega) (Ev.now _)
  refine ev_neg (by omega) ?_
  by_cases h3 : pD n d b ≤ 1000000000000000
  rotate_left
  · rw [plus_bad (by omega)]
    exact ev_pos (by omega) (Ev.now _)
  refine ev_neg (by omega) ?_
  rw [show plus n d b = _ from if_pos ⟨h2, h3⟩, w64n (by omega), w64n (by omega)]
  exact Ev.now _
theorem plus_ok {n d b : Nat} (h : PB n d b) (hp : (plus n d b).2.2 = true) : ∃ n' d' : Nat, plus n d b = ((n' : Int), (d' : Int), true) ∧ n' ≤ 1000000000000000 ∧ 1 ≤ d' ∧ d' ≤ 1000000000000000 := by
  by_cases hc : pN n d b / pT n d b ≤ 1000000000000000 ∧ pD n d b ≤ 1000000000000000
  · obtain ⟨g0, g1, u0, u1, w0, w1⟩ := pb_gcd h
    obtain ⟨t0, t1, t2, t3, t4⟩ := pb_pt h
    have hd := h.hd
    have d1 : 0 < d / pT n d b := Nat.div_pos (Nat.le_of_dvd (by omega) t3) (by omega)
    exact ⟨_, _, if_pos hc, hc.1, Nat.mul_pos d1 (by omega), hc.2⟩
  · rw [plus_bad hc] at hp
    cases hp
/-! the curve -/
theorem rdS_nat (l : List S83) (n : Nat) : rd_T83 l (n : Int) = l.getD n z83 := by
  unfold rd_T83
  rw [Int.toNat_natCast]
def OkAt (l : List S83) (m : Nat) : Prop := (1 ≤ (l.getD m z83).f1 ∧ (l.getD m z83).f1 ≤ 1000000) ∧ (0 < m → (l.getD (m - 1) z83).f0 < (l.getD m z83).f0)
def CurveOk (l : List S83) : Prop := (∀ m, m < l.length → OkAt l m) ∧ l.length ≤ 20
def cyF (x : Int) (c : Int) (s : S83) : Int := if s.f0 ≤ x then s.f1 else c
/-- the cycles for a range: those of the last step that is not above it -/
def cyc (l : List S83) (x : Int) : Int := l.foldl (cyF x) 0
theorem take_fold (l : List S83) (x : Int) {j : Nat} (h : j < l.length) : (l.take (j + 1)).foldl (cyF x) 0 = cyF x ((l.take j).foldl (cyF x) 0) (l.getD j z83) := by
  rw [List.take_succ_eq_append_getElem h, List.foldl_append, List.getD_eq_getElem?_getD, List.getElem?_eq_getElem h]
  rfl
theorem first_over (l : List S83) (x : Int) : ∀ n, n ≤ l.length → ∃ m, m ≤ n ∧ (∀ j, j < m → (l.getD j z83).f0 ≤ x) ∧ (m < n → x < (l.getD m z83).f0) := by
  intro n
  induction n with
  | zero => intro _; exact ⟨0, by omega, fun j h => by omega, fun h => by omega⟩
  | succ n ih =>
    intro hn
    obtain ⟨m, h0, h1, h2⟩ := ih (by omega)
    by_cases hm : m < n
    · exact ⟨m, by omega, h1, fun _ => h2 hm⟩
    · by_cases hx : (l.getD n z83).f0 ≤ x
      · refine ⟨n + 1, by omega, fun j hj => ?_, fun h => by omega⟩
        by_cases e : j = n
        · rw [e]; exact hx
        · exact h1 j (by omega)
      · obtain rfl : m = n := by omega
        exact ⟨m, by omega, h1, fun _ => by omega⟩
theorem rising {l : List S83} (hc : CurveOk l) (m : Nat) : ∀ d, m + d < l.length → (l.getD m z83).f0 ≤ (l.getD (m + d) z83).f0 := by
  intro d
  induction d with
  | zero => intro _; exact Int.le_refl _
  | succ d ih =>
    intro h
    have h1 := ih (by omega)
    have h2 := (hc.1 (m + d + 1) (by omega)).2 (by omega)
    rw [show m + d + 1 - 1 = m + d by omega] at h2
    rw [show m + (d + 1) = m + d + 1 by omega]
    omega
theorem place {l : List S83} (hc : CurveOk l) (x : Int) : ∃ m, m ≤ l.length ∧ (∀ j, j < m → (l.getD j z83).f0 ≤ x) ∧ (∀ j, m ≤ j → j < l.length → x < (l.getD j z83).f0) ∧ cyc l x = if m = 0 then 0 else (l.getD (m - 1) z83).f1 := by
  obtain ⟨m, h0, h1, h2⟩ := first_over l x l.length (Nat.le_refl _)
  have h3 : ∀ j, m ≤ j → j < l.length → x < (l.getD j z83).f0 := by
    intro j hj hl
    have := rising hc m (j - m) (by omega)
    rw [show m + (j - m) = j by omega] at this
    have := h2 (by omega)
    omega
  refine ⟨m, h0, h1, h3, ?_⟩
  have key : ∀ j, j ≤ l.length → (l.take j).foldl (cyF x) 0 = if min j m = 0 then 0 else (l.getD (min j m - 1) z83).f1 := by
    intro j
    induction j with
    | zero => intro _; rw [Nat.zero_min]; rfl
    | succ j ih =>
      intro hj
      rw [take_fold l x (by omega)]
      unfold cyF
      by_cases hm : j < m
      · rw [if_pos (h1 j hm), show min (j + 1) m = j + 1 by omega, if_neg (by omega), show j + 1 - 1 = j by omega]
      · have h4 := h3 j (by omega) (by omega)
        rw [if_neg (by omega)]
        have h5 := ih (by omega)
        rw [show min (j + 1) m = m by omega]
        rw [show min j m = m by omega] at h5
        exact h5
  have := key l.length (Nat.le_refl _)
  rw [List.take_length, show min l.length m = m by omega] at this
  exact this
theorem cyc_bd {l : List S83} (hc : CurveOk l) (x : Int) (h : cyc l x ≠ 0) : 1 ≤ cyc l x ∧ cyc l x ≤ 1000000 := by
  obtain ⟨m, h0, _, _, e⟩ := place hc x
  by_cases hm : m = 0
  · rw [if_pos hm] at e
    exact absurd e h
  · rw [if_neg hm] at e
    rw [e]
    exact (hc.1 (m - 1) (by omega)).1
/-- what is used, range by range -/
def usd (l : List S83) : List Int → Nat → Nat → Int × Int × Bool
  | [], n, d => ((n : Int), (d : Int), true)
  | x :: rs, n, d => if cyc l x = 0 then usd l rs n d else (if (plus n d (cyc l x).toNat).2.2 = true then usd l rs (plus n d (cyc l x).toNat).1.toNat (plus n d (cyc l x).toNat).2.1.toNat else (0, 0, false))
theorem drop_int {l : List Int} {n : Nat} (h : n < l.length) : l.drop n = l.getD n 0 :: l.drop (n + 1) := by
  rw [List.drop_eq_getElem_cons h, List.getD_eq_getElem?_getD, List.getElem?_eq_getElem h]
  rfl
theorem impl_find {l : List S83} (hl : l.length ≤ 1000) (x : Int) {m : Nat} (h0 : m ≤ l.length) (h1 : ∀ j, j < m → (l.getD j z83).f0 ≤ x) (h2 : ∀ j, m ≤ j → j < l.length → x < (l.getD j z83).f0) (rs : List Int) (N i n d : Int) (r : Int × Int × Bool) (hr : Ev (fun k => impl_Used.j3 k l ((m : Int) - 1) rs N i n d) r) :
    ∀ (dd j : Nat), j + dd = m → Ev (fun k => impl_Used.l1 k l x ((j : Int) - 1) rs N i n d) r := by
  intro dd
  induction dd with
  | zero =>
    intro j hj
    obtain rfl : j = m := by omega
    have hw : wrap64 ((j : Int) - 1 + 1) = (j : Int) := by rw [w64 (by omega) (by omega)]; omega
    refine ev_succ ?_
    simp only [impl_Used.l1, hw, rdS_nat]
    by_cases hlt : j < l.length
    · have := h2 j (Nat.le_refl _) hlt
      exact ev_pos (by omega) (ev_pos (by omega) (ev_neg (by omega) hr))
    · exact ev_neg (by omega) hr
  | succ dd ih =>
    intro j hj
    have hw : wrap64 ((j : Int) - 1 + 1) = (j : Int) := by rw [w64 (by omega) (by omega)]; omega
    have h3 := ih (j + 1) (by omega)
    rw [show (((j + 1 : Nat) : Int) - 1) = (j : Int) by omega] at h3
    refine ev_succ ?_
    simp only [impl_Used.l1, hw, rdS_nat]
    exact ev_pos (by omega) (ev_pos (by omega) (ev_pos (h1 j (by omega)) h3))
theorem impl_used_loop {l : List S83} (hc : CurveOk l) (rs : List Int) (hr : rs.length ≤ 40) : ∀ (dd i n d : Nat), i + dd = rs.length → n ≤ 1000000000000000 → 1 ≤ d → d ≤ 1000000000000000 → Ev (fun k => impl_Used.l0 k l rs (rs.length : Int) (i : Int) (n : Int) (d : Int)) (usd l (rs.drop i) n d) := by
  have hl := hc.2
  intro dd
  induction dd with
  | zero =>
    intro i n d hi hn hd hd2
    rw [List.drop_of_length_le (by omega)]
    refine ev_succ ?_
    simp only [impl_Used.l0, usd]
    exact ev_neg (by omega) (Ev.now _)
  | succ dd ih =>
    intro i n d hi hn hd hd2
    have hw := w64_succ (n := i) (m := rs.length) (by omega) (by omega)
    obtain ⟨m, h0, h1, h2, e⟩ := place hc (rs.getD i 0)
    rw [drop_int (by omega)]
    simp only [usd]
    refine ev_succ ?_
    simp only [impl_Used.l0]
    refine ev_pos (by omega) (ev_pos (by omega) (ev_pos (by omega) ?_))
    rw [rd_nat]
    refine impl_find (by omega) (rs.getD i 0) h0 h1 h2 rs _ _ _ _ _ ?_ m 0 (by omega)
    refine ev_succ ?_
    simp only [impl_Used.j3, hw]
    by_cases hm : m = 0
    · rw [if_pos hm] at e
      rw [if_pos e]
      exact ev_pos (by omega) (ih (i + 1) n d (by omega) hn hd hd2)
    · rw [if_neg hm] at e
      have ok := (hc.1 (m - 1) (by omega)).1
      rw [show ((m : Int) - 1) = ((m - 1 : Nat) : Int) by omega, rdS_nat, ← e]
      rw [← e] at ok
      rw [if_neg (by omega)]
      have pb : PB n d (cyc l (rs.getD i 0)).toNat := ⟨hn, ⟨hd, hd2⟩, by omega⟩
      have ha := addpart_ev pb
      rw [Int.toNat_of_nonneg (by omega)] at ha
      refine ev_neg (by omega) (ev_pos (by omega) (ev_pos (by omega) (Ev.bind ha ?_)))
      by_cases hp : (plus n d (cyc l (rs.getD i 0)).toNat).2.2 = true
      · obtain ⟨n', d', q, q1, q2, q3⟩ := plus_ok pb hp
        rw [if_pos hp]
        refine ev_pos hp ?_
        rw [q]
        simp only [Int.toNat_natCast]
        exact ih (i + 1) n' d' (by omega) q1 q2 q3
      · rw [if_neg hp]
        exact ev_neg hp (Ev.now _)

theorem wrap_i64_eq (n : Int) : IntKind.i64.wrap n = wrap64 n := by
  rw [IntKind.wrap_i64, wrap64]
theorem and_255 (x : Int) : 0 ≤ Go.bits .and .i64 x 255 ∧ Go.bits .and .i64 x 255 ≤ 255 := by
  have h : (BitVec.ofInt 64 x &&& BitVec.ofInt 64 255).toNat ≤ 255 := by
    rw [BitVec.toNat_and]
    exact Nat.le_trans Nat.and_le_right (by decide)
  show 0 ≤ IntKind.i64.wrap ((BitVec.ofInt 64 x &&& BitVec.ofInt 64 255).toNat : Int) ∧ IntKind.i64.wrap ((BitVec.ofInt 64 x &&& BitVec.ofInt 64 255).toNat : Int) ≤ 255
  generalize (BitVec.ofInt 64 x &&& BitVec.ofInt 64 255).toNat = m at h
  rw [wrap_i64_eq, w64 (by omega) (by omega)]
  omega
theorem new_loop (l : List Int) (hl : l.length ≤ 1048576) : ∀ (d n : Nat) (s : Int), n + d = l.length → ∃ s', Ev (fun k => spec_l1New.l0 k l s (n : Int)) (l, 0, s') := by
  intro d
  induction d with
  | zero =>
    intro n s hn
    refine ⟨s, ev_succ ?_⟩
    simp only [spec_l1New.l0]
    exact ev_neg (by omega) (Ev.now _)
  | succ d ih =>
    intro n s hn
    by_cases h : (n : Int) < 4000
    · obtain ⟨s', e⟩ := ih (n + 1) (Go.bits .and .i64 (wrap64 ((wrap64 ((wrap64 (s * 131)) + (wrap64 (rd l (n : Int))))) + 7)) 1073741823) (by omega)
      refine ⟨s', ev_succ ?_⟩
      simp only [spec_l1New.l0]
      rw [w64_succ (m := l.length) (n := n) (by omega) (by omega)]
      exact ev_pos (by omega) (ev_pos h (ev_pos (by omega) e))
    · refine ⟨s, ev_succ ?_⟩
      simp only [spec_l1New.l0]
      exact ev_pos (by omega) (ev_neg h (Ev.now _))
theorem new_ev (l : List Int) (hl : l.length ≤ 1048576) : ∃ s, Ev (fun k => spec_l1New.f k l) (l, 0, s) := by
  unfold spec_l1New.f
  exact new_loop l hl l.length 0 _ (by omega)
def At_ (l : List Int) (pos : Int) : Prop := 0 ≤ pos ∧ pos ≤ l.length
theorem byte_eq {l : List Int} (hl : l.length ≤ 1048576) {pos : Int} (hp : At_ l pos) (s : Int) : ∃ b pos' s', spec_l1Byte.f l pos s = some (b, pos', s') ∧ 0 ≤ b ∧ b ≤ 255 ∧ At_ l pos' := by
  obtain ⟨h0, h1⟩ := hp
  unfold spec_l1Byte.f
  by_cases h : pos < (l.length : Int)
  · rw [if_pos h, if_pos h0]
    refine ⟨_, _, _, rfl, (and_255 _).1, (and_255 _).2, ?_⟩
    rw [w64 (by omega) (by omega)]
    exact ⟨by omega, by omega⟩
  · rw [if_neg h]
    exact ⟨_, _, _, rfl, (and_255 _).1, (and_255 _).2, h0, h1⟩
theorem tmod_bd {x a : Int} (h0 : 0 ≤ x) (ha : 1 ≤ a) : 0 ≤ Int.tmod x a ∧ Int.tmod x a < a := by
  rw [Int.tmod_eq_emod_of_nonneg h0]
  exact ⟨Int.emod_nonneg _ (by omega), Int.emod_lt_of_pos _ (by omega)⟩
theorem below_eq {l : List Int} (hl : l.length ≤ 1048576) {pos : Int} (hp : At_ l pos) (s : Int) {a : Int} (ha : 1 ≤ a) : ∃ v pos' s', spec_l1Below.f l pos s a = some (v, pos', s') ∧ 0 ≤ v ∧ v < a ∧ At_ l pos' := by
  unfold spec_l1Below.f
  rw [if_neg (by omega)]
  obtain ⟨b0, p0, s0, e0, l0, u0, q0⟩ := byte_eq hl hp s
  obtain ⟨b1, p1, s1, e1, l1, u1, q1⟩ := byte_eq hl q0 s0
  obtain ⟨b2, p2, s2, e2, l2, u2, q2⟩ := byte_eq hl q1 s1
  obtain ⟨b3, p3, s3, e3, l3, u3, q3⟩ := byte_eq hl q2 s2
  by_cases h : a ≤ 256
  · rw [if_pos h, e0]
    simp only [Option.bind_some]
    rw [if_neg (by omega)]
    obtain ⟨t0, t1⟩ := tmod_bd l0 ha
    exact ⟨_, _, _, rfl, t0, t1, q0⟩
  · rw [if_neg h, e0]
    simp only [Option.bind_some, e1, e2, e3]
    rw [if_neg (by omega)]
    have w0 : wrap64 (b0 * 16777216) = b0 * 16777216 := w64 (by omega) (by omega)
    have w1 : wrap64 (b1 * 65536) = b1 * 65536 := w64 (by omega) (by omega)
    have w2 : wrap64 (b2 * 256) = b2 * 256 := w64 (by omega) (by omega)
    have w3 : wrap64 (b0 * 16777216 + b1 * 65536) = b0 * 16777216 + b1 * 65536 := w64 (by omega) (by omega)
    have w4 : wrap64 (b0 * 16777216 + b1 * 65536 + b2 * 256) = b0 * 16777216 + b1 * 65536 + b2 * 256 := w64 (by omega) (by omega)
    have w5 : wrap64 (b0 * 16777216 + b1 * 65536 + b2 * 256 + b3) = b0 * 16777216 + b1 * 65536 + b2 * 256 + b3 := w64 (by omega) (by omega)
    rw [w0, w1, w2, w3, w4, w5]
    obtain ⟨t0, t1⟩ := tmod_bd (x := b0 * 16777216 + b1 * 65536 + b2 * 256 + b3) (by omega) ha
    exact ⟨_, _, _, rfl, t0, t1, q3⟩

theorem pick_eq {l : List Int} (hl : l.length ≤ 1048576) {pos : Int} (hp : At_ l pos) (s : Int) (q : List Int) (h1 : 1 ≤ q.length) : ∃ v pos' s', spec_l1PickInt.f l pos s q = some (v, pos', s') ∧ At_ l pos' := by
  obtain ⟨v, p', s', e, v0, v1, q1⟩ := below_eq hl hp s (a := (q.length : Int)) (by omega)
  unfold spec_l1PickInt.f
  rw [e]
  simp only [Option.bind_some]
  rw [if_pos v0, if_pos v1]
  exact ⟨_, _, _, rfl, q1⟩
theorem once_eq {l : List Int} (hl : l.length ≤ 1048576) {pos : Int} (hp : At_ l pos) (s : Int) {a : Int} (ha : 1 ≤ a) : ∃ b pos' s', spec_l1Once.f l pos s a = some (b, pos', s') ∧ At_ l pos' := by
  obtain ⟨v, p', s', e, v0, v1, q1⟩ := below_eq hl hp s ha
  unfold spec_l1Once.f
  rw [e]
  simp only [Option.bind_some]
  exact ⟨_, _, _, rfl, q1⟩

theorem spec_in_eq (a b c : Int) : spec_l1In.f a b c = some (decide (b ≤ a ∧ a ≤ c)) := by
  unfold spec_l1In.f
  split
  · congr 1
    rw [decide_eq_decide]
    omega
  · congr 1
    symm
    rw [decide_eq_false_iff_not]
    omega
theorem spec_in_evB (a b c : Int) : EvB (fun _ => spec_l1In.f a b c) (b ≤ a ∧ a ≤ c) := by
  rw [spec_in_eq]
  exact EvB.dec

theorem spec_all_loop (l : List Int) (lo hi : Int) (hx : l.length ≤ 9223372036854775807) : ∀ (d n : Nat), n + d = l.length → (∀ m, m < n → lo ≤ l.getD m 0 ∧ l.getD m 0 ≤ hi) → ∃ b, Ev (fun k => spec_l1All.l0 k l lo hi (n : Int)) b ∧ (b = true ↔ AllIn l lo hi) := by
  intro d
  induction d with
  | zero =>
    intro n hn hm
    refine ⟨true, ?_, ⟨fun _ m h => hm m (by omega), fun _ => rfl⟩⟩
    refine ev_succ ?_
    simp only [spec_l1All.l0]
    exact ev_neg (by omega) (Ev.now _)
  | succ d ih =>
    intro n hn hm
    by_cases h : lo ≤ l.getD n 0 ∧ l.getD n 0 ≤ hi
    · obtain ⟨b, hb, hiff⟩ := ih (n + 1) (by omega) (fun m hm' => by
        by_cases e : m = n
        · subst e; exact h
        · exact hm m (by omega))
      refine ⟨b, ?_, hiff⟩
      refine ev_succ ?_
      simp only [spec_l1All.l0, spec_in_eq, Option.bind_some]
      refine ev_pos (by omega) (ev_pos (by omega) (ev_pos (by rw [rd_nat]; simpa using h) ?_))
      rw [w64_succ (m := l.length) (by omega) hx]
      exact hb
    · refine ⟨false, ?_, ⟨fun h' => (Bool.false_ne_true h').elim, fun h' => absurd (h' n (by omega)) h⟩⟩
      refine ev_succ ?_
      simp only [spec_l1All.l0, spec_in_eq, Option.bind_some]
      exact ev_pos (by omega) (ev_pos (by omega) (ev_neg (by rw [rd_nat]; simpa using h) (Ev.now _)))
theorem spec_all_ev (l : List Int) (lo hi : Int) (hx : l.length ≤ 9223372036854775807) : ∃ b, Ev (fun k => spec_l1All.f k l lo hi) b ∧ (b = true ↔ AllIn l lo hi) := by
  unfold spec_l1All.f
  exact spec_all_loop l lo hi hx l.length 0 (by omega) (fun m h => by omega)

theorem at_ev {l : List Int} (h : ∀ x ∈ l, 0 ≤ x ∧ x ≤ 255) (hl : l.length ≤ 1048576) (i : Int) (h0 : 0 ≤ i) (h1 : i ≤ 1000000) : ∃ v, laws_at.f l i = some v ∧ 0 ≤ v ∧ v ≤ 255 := by
  unfold laws_at.f
  by_cases hi : i < (l.length : Int)
  · rw [if_pos hi, if_pos h0]
    have := u8_bounds h i.toNat
    refine ⟨_, rfl, ?_⟩
    unfold rd
    rw [w64 (by omega) (by omega)]
    exact this
  · rw [if_neg hi]
    refine ⟨_, rfl, ?_⟩
    rw [w64 (x := i * 7) (by omega) (by omega), w64 (by omega) (by omega), Int.tmod_eq_emod_of_nonneg (by omega)]
    omega

theorem big_ev {l : List Int} (h : l.length ≤ 1048576) : laws_big.f l = some false := by
  unfold laws_big.f
  rw [decide_eq_false (by omega)]
theorem big_big {l : List Int} (h : ¬ l.length ≤ 1048576) : laws_big.f l = some true := by
  unfold laws_big.f
  rw [decide_eq_true (by omega)]

theorem cross_same (k : Nat) : ∀ x0 x1 a b, impl_Crossings.l0 k x0 x1 a b = spec_Crossings.l0 k x0 x1 a b := by
  induction k with
  | zero => intro x0 x1 a b; simp only [impl_Crossings.l0, spec_Crossings.l0]
  | succ k ih => intro x0 x1 a b; simp only [impl_Crossings.l0, spec_Crossings.l0, ih]
theorem cross_ev (l : List Int) (lv : Int) (hx : l.length ≤ 1000000) : ∀ (d n c : Nat), 1 ≤ n → l.length ≤ n + d → c + 1 ≤ n → (c = 0 ∨ n ≤ l.length) → ∃ r : Nat, Ev (fun k => spec_Crossings.l0 k l lv (c : Int) (n : Int)) ((r : Int), true) ∧ r ≤ l.length := by
  intro d
  induction d with
  | zero =>
    intro n c h1 hn hc ho
    refine ⟨c, ev_succ ?_, by omega⟩
    simp only [spec_Crossings.l0]
    exact ev_neg (by omega) (Ev.now _)
  | succ d ih =>
    intro n c h1 hn hc ho
    by_cases hlt : n < l.length
    · have e1 : wrap64 ((n : Int) + 1) = ((n + 1 : Nat) : Int) := w64_succ hlt (by omega)
      have e2 : wrap64 ((n : Int) - 1) = (n : Int) - 1 := w64 (by omega) (by omega)
      have e3 : wrap64 ((c : Int) + 1) = ((c + 1 : Nat) : Int) := w64_succ (m := n) (by omega) (by omega)
      by_cases ha : rd l (n : Int) ≥ lv
      · by_cases hb : rd l ((n : Int) - 1) < lv
        · obtain ⟨r, hr, hl⟩ := ih (n + 1) (c + 1) (by omega) (by omega) (by omega) (.inr (by omega))
          refine ⟨r, ev_succ ?_, hl⟩
          simp only [spec_Crossings.l0, e1, e2, e3]
          exact ev_pos (by omega) (ev_pos (by omega) (ev_pos ha (ev_pos (by omega) (ev_pos (by omega) (ev_pos hb hr)))))
        · obtain ⟨r, hr, hl⟩ := ih (n + 1) c (by omega) (by omega) (by omega) (.inr (by omega))
          refine ⟨r, ev_succ ?_, hl⟩
          simp only [spec_Crossings.l0, e1, e2]
          exact ev_pos (by omega) (ev_pos (by omega) (ev_pos ha (ev_pos (by omega) (ev_pos (by omega) (ev_neg hb hr)))))
      · obtain ⟨r, hr, hl⟩ := ih (n + 1) c (by omega) (by omega) (by omega) (.inr (by omega))
        refine ⟨r, ev_succ ?_, hl⟩
        simp only [spec_Crossings.l0, e1, e2]
        exact ev_pos (by omega) (ev_pos (by omega) (ev_neg ha hr))
    · refine ⟨c, ev_succ ?_, by omega⟩
      simp only [spec_Crossings.l0]
      exact ev_neg (by omega) (Ev.now _)
theorem cross_none (l : List Int) (hx : l.length ≤ 1000000) (ha : ∀ m, m < l.length → l.getD m 0 ≤ 1000000) : ∀ (d n : Nat), l.length ≤ n + d → Ev (fun k => impl_Crossings.l0 k l 2000000 0 (n : Int)) (0, true) := by
  intro d
  induction d with
  | zero =>
    intro n hn
    refine ev_succ ?_
    simp only [impl_Crossings.l0]
    exact ev_neg (by omega) (Ev.now _)
  | succ d ih =>
    intro n hn
    by_cases hlt : n < l.length
    · have e1 : wrap64 ((n : Int) + 1) = ((n + 1 : Nat) : Int) := w64_succ hlt (by omega)
      have := ha n hlt
      refine ev_succ ?_
      simp only [impl_Crossings.l0, e1, rd_nat]
      exact ev_pos (by omega) (ev_pos (by omega) (ev_neg (by omega) (ih (n + 1) (by omega))))
    · refine ev_succ ?_
      simp only [impl_Crossings.l0]
      exact ev_neg (by omega) (Ev.now _)
theorem cross_all (l : List Int) (lv : Int) (hx : l.length ≤ 1000000) : ∃ (ok : Bool) (r : Nat), Ev (fun k => impl_Crossings.f k l lv) ((r : Int), ok) ∧ Ev (fun k => spec_Crossings.f k l lv) ((r : Int), ok) ∧ r ≤ l.length ∧ Ev (fun k => impl_Crossings.f k l 2000000) (0, ok) := by
  have bad : Ev (fun k => spec_Crossings.j0 k l lv true) (0, false) ∧ ∀ v, Ev (fun k => impl_Crossings.j0 k l v true) (0, false) := by
    constructor
    · refine ev_succ ?_
      simp only [spec_Crossings.j0]
      exact ev_pos (by trivial) (Ev.now _)
    · intro v
      refine ev_succ ?_
      simp only [impl_Crossings.j0]
      exact ev_pos (by trivial) (Ev.now _)
  unfold spec_Crossings.f impl_Crossings.f
  by_cases h : (l.length : Int) > 300
  · exact ⟨false, 0, ev_pos h (bad.2 _), ev_pos h bad.1, by omega, ev_pos h (bad.2 _)⟩
  · obtain ⟨b, hb, ib⟩ := spec_all_ev l (-1000000) 1000000 (by omega)
    obtain ⟨c, hc, ic⟩ := impl_all_ev l (-1000000) 1000000 (by omega)
    obtain rfl : c = b := bool_eq_of_iff ic ib
    cases c with
    | false => exact ⟨false, 0, ev_neg h (Ev.bind hc (bad.2 _)), ev_neg h (Ev.bind hb bad.1), by omega, ev_neg h (Ev.bind hc (bad.2 _))⟩
    | true =>
      obtain ⟨r, hr, hl⟩ := cross_ev l lv hx l.length 1 0 (by omega) (by omega) (by omega) (.inl rfl)
      have hn := cross_none l hx (fun m hm => ((ib.1 rfl) m hm).2) l.length 1 (by omega)
      refine ⟨true, r, ev_neg h (Ev.bind hc (ev_succ ?_)), ev_neg h (Ev.bind hb (ev_succ ?_)), hl, ev_neg h (Ev.bind hc (ev_succ ?_))⟩
      · simp only [impl_Crossings.j0, cross_same]
        exact ev_neg (by decide) hr
      · simp only [spec_Crossings.j0]
        exact ev_neg (by decide) hr
      · simp only [impl_Crossings.j0]
        exact ev_neg (by decide) hn
theorem all_mem {l : List Int} {lo hi : Int} (h : ∀ x ∈ l, lo ≤ x ∧ x ≤ hi) : AllIn l lo hi := by
  intro n hn
  rw [List.getD_eq_getElem?_getD, List.getElem?_eq_getElem hn]
  exact h _ (List.getElem_mem hn)
theorem up_ev : Ev (fun k => impl_Crossings.f k [0, 5, 0, 5] 3) (2, true) := by
  obtain ⟨c, hc, ic⟩ := impl_all_ev [0, 5, 0, 5] (-1000000) 1000000 (by decide +kernel)
  have hal : AllIn [0, 5, 0, 5] (-1000000) 1000000 := all_mem (by decide +kernel)
  obtain rfl : c = true := ic.2 hal
  unfold impl_Crossings.f
  refine ev_neg (by decide +kernel) (Ev.bind hc (ev_succ ?_))
  simp only [impl_Crossings.j0]
  refine ev_neg (by decide +kernel) (ev_succ ?_)
  simp only [impl_Crossings.l0]
  refine ev_pos (by decide +kernel) (ev_pos (by decide +kernel) (ev_pos (by decide +kernel) (ev_pos (by decide +kernel) (ev_pos (by decide +kernel) (ev_pos (by decide +kernel) (ev_succ ?_))))))
  simp only [impl_Crossings.l0]
  refine ev_pos (by decide +kernel) (ev_pos (by decide +kernel) (ev_neg (by decide +kernel) (ev_succ ?_)))
  simp only [impl_Crossings.l0]
  refine ev_pos (by decide +kernel) (ev_pos (by decide +kernel) (ev_pos (by decide +kernel) (ev_pos (by decide +kernel) (ev_pos (by decide +kernel) (ev_pos (by decide +kernel) (ev_succ ?_))))))
  simp only [impl_Crossings.l0]
  rw [show wrap64 (wrap64 (0 + 1) + 1) = 2 by decide +kernel]
  exact ev_neg (by decide +kernel) (Ev.now _)
/-! what is drawn -/
theorem dcross_j {l : List Int} (hl : l.length ≤ 1048576) (x : List Int) {pos : Int} (hp : At_ l pos) (s : Int) : ∃ v, Ev (fun k => spec_DrawCrossings.j1 k x l pos s) (x, v) := by
  obtain ⟨v, p0, q0, e0, _, _, hp⟩ := below_eq hl hp s (a := 17) (by decide)
  obtain ⟨b, p1, q1, e1, hp⟩ := once_eq hl hp q0 (a := 40) (by decide)
  cases b with
  | true =>
    obtain ⟨u, p2, q2, e2, hp⟩ := pick_eq hl hp q1 [(-9223372036854775808), 9223372036854775807] (by decide)
    refine ⟨u, ev_succ ?_⟩
    simp only [spec_DrawCrossings.j1, e0, e1, e2, Option.bind_some]
    exact ev_pos (by trivial) (Ev.now _)
  | false =>
    refine ⟨wrap64 (v - 8), ev_succ ?_⟩
    simp only [spec_DrawCrossings.j1, e0, e1, Option.bind_some]
    exact ev_neg (by decide) (Ev.now _)
theorem dcross_loop {l : List Int} (hl : l.length ≤ 1048576) : ∀ (d : Nat) (x : List Int) (y pos s : Int), d ≤ 100 → x.length + d ≤ 100 → At_ l pos → ∃ r v, Ev (fun k => spec_DrawCrossings.l0 k x y (d : Int) l pos s) (r, v) ∧ r.length ≤ 1000 := by
  intro d
  induction d with
  | zero =>
    intro x y pos s hd hx hp
    obtain ⟨v, p0, q0, e0, v0, v1, hp⟩ := below_eq hl hp s (a := 30) (by decide)
    by_cases h0 : v = 0
    · obtain ⟨u, p1, q1, e1, hp⟩ := pick_eq hl hp q0 [(-1000001), (-1000000), 1000000, 1000001] (by decide)
      obtain ⟨w, hw⟩ := dcross_j hl (x ++ [u]) hp q1
      refine ⟨x ++ [u], w, ev_succ ?_, by rw [List.length_append, List.length_singleton]; omega⟩
      simp only [spec_DrawCrossings.l0, e0, e1, Option.bind_some]
      exact ev_neg (by decide) (ev_pos h0 (ev_pos (by omega) hw))
    by_cases h1 : v = 1
    · obtain ⟨u, p1, q1, e1, u0, u1, hp⟩ := below_eq hl hp q0 (a := 2) (by decide)
      have hw3 : wrap64 (300 + u) = 300 + u := w64 (by omega) (by omega)
      obtain ⟨w, hw⟩ := dcross_j hl (List.replicate (300 + u).toNat 0) hp q1
      refine ⟨List.replicate (300 + u).toNat 0, w, ev_succ ?_, by rw [List.length_replicate]; omega⟩
      simp only [spec_DrawCrossings.l0, e0, e1, hw3, Option.bind_some]
      exact ev_neg (by decide) (ev_neg h0 (ev_pos h1 (ev_pos (by omega) (ev_pos (by omega) hw))))
    · obtain ⟨w, hw⟩ := dcross_j hl x hp q0
      refine ⟨x, w, ev_succ ?_, by omega⟩
      simp only [spec_DrawCrossings.l0, e0, Option.bind_some]
      exact ev_neg (by decide) (ev_neg h0 (ev_neg h1 hw))
  | succ d ih =>
    intro x y pos s hd hx hp
    obtain ⟨v, p0, q0, e0, v0, v1, hp⟩ := below_eq hl hp s (a := 11) (by decide)
    have hw : wrap64 (((d + 1 : Nat) : Int) - 1) = (d : Int) := by rw [w64 (by omega) (by omega)]; omega
    obtain ⟨r, w, hr, hl2⟩ := ih (x ++ [wrap64 (wrap64 (y + v) - 5)]) (wrap64 (wrap64 (y + v) - 5)) p0 q0 (by omega) (by simp; omega) hp
    refine ⟨r, w, ev_succ ?_, hl2⟩
    simp only [spec_DrawCrossings.l0, e0, hw, Option.bind_some]
    exact ev_pos (by omega) (ev_pos (by omega) hr)
theorem size_ev {l : List Int} (hl : l.length ≤ 1048576) : ∃ v, spec_l1Size.f l 40 = some v ∧ 2 ≤ v ∧ v ≤ 40 := by
  unfold spec_l1Size.f
  have h1 : wrap64 ((l.length : Int) / 20) = (l.length : Int) / 20 := w64 (by omega) (by omega)
  have h2 : wrap64 (2 + (l.length : Int) / 20) = 2 + (l.length : Int) / 20 := w64 (by omega) (by omega)
  rw [h1, h2]
  by_cases h : 2 + (l.length : Int) / 20 > 40
  · rw [if_pos h]
    exact ⟨40, rfl, by decide, by decide⟩
  · rw [if_neg h]
    exact ⟨_, rfl, by omega, by omega⟩
theorem dcross_ev {l : List Int} (hl : l.length ≤ 1048576) : ∃ r v, Ev (fun k => spec_DrawCrossings.f k l) (r, v) ∧ r.length ≤ 1000 := by
  obtain ⟨s, hs⟩ := new_ev l hl
  obtain ⟨z, ez, z0, z1⟩ := size_ev hl
  have hp : At_ l 0 := ⟨by omega, by omega⟩
  have hw : wrap64 (2 * z) = 2 * z := w64 (by omega) (by omega)
  obtain ⟨v, p0, q0, e0, v0, v1, hp⟩ := below_eq hl hp s (a := 2 * z) (by omega)
  obtain ⟨r, w, hr, hl2⟩ := dcross_loop hl v.toNat [] 0 p0 q0 (by omega) (by simp; omega) hp
  rw [Int.toNat_of_nonneg v0] at hr
  refine ⟨r, w, ?_, hl2⟩
  unfold spec_DrawCrossings.f
  refine Ev.bind hs ?_
  simp only [ez, hw, e0, Option.bind_some]
  exact hr
/-! sixtieths -/
theorem plus_sixty {n d W c w : Nat} (hd : d ∣ 60) (hd0 : 0 < d) (hW : n * 60 = W * d) (hWb : W ≤ 1000) (hcw : w * c = 60) (hw : w ≤ 60) : ∃ n' d' : Nat, plus n d c = ((n' : Int), (d' : Int), true) ∧ d' ∣ 60 ∧ 0 < d' ∧ n' * 60 = (W + w) * d' := by
  have hc0 : 0 < c := by
    rcases Nat.eq_zero_or_pos c with h | h
    · rw [h, Nat.mul_zero] at hcw; omega
    · exact h
  have hc : c ∣ 60 := ⟨w, by rw [Nat.mul_comm]; exact hcw.symm⟩
  have hd60 : d ≤ 60 := Nat.le_of_dvd (by decide) hd
  have hc60 : c ≤ 60 := Nat.le_of_dvd (by decide) hc
  have hn : n ≤ W := by
    have : W * d ≤ W * 60 := Nat.mul_le_mul_left W hd60
    omega
  have pb : PB n d c := ⟨by omega, ⟨hd0, by omega⟩, hc0, by omega⟩
  obtain ⟨t0, _, t2, t3, t4⟩ := pb_pt pb
  obtain ⟨g0, _⟩ := pb_gcd pb
  have hN : pN n d c = n * (c / Nat.gcd d c) + d / Nat.gcd d c := by unfold pN; rfl
  have hDD : pD n d c = d / pT n d c * (c / Nat.gcd d c) := by unfold pD; rfl
  have tN : pT n d c * (pN n d c / pT n d c) = pN n d c := Nat.mul_div_cancel' t2
  have tD : pT n d c * pD n d c = d * (c / Nat.gcd d c) := by
    rw [hDD, ← Nat.mul_assoc, Nat.mul_div_cancel' t3]
  have hdc : d / Nat.gcd d c * c = d * (c / Nat.gcd d c) := by
    obtain ⟨e, ee⟩ := Nat.gcd_dvd_left d c
    obtain ⟨f, ef⟩ := Nat.gcd_dvd_right d c
    generalize Nat.gcd d c = g at *
    have q3 : d / g = e := by rw [ee]; exact Nat.mul_div_cancel_left e (by omega)
    have q4 : c / g = f := by rw [ef]; exact Nat.mul_div_cancel_left f (by omega)
    rw [q3, q4]
    calc e * c = e * (g * f) := by rw [← ef]
      _ = g * e * f := by ac_rfl
      _ = d * f := by rw [← ee]
  have hlcm : d * (c / Nat.gcd d c) ∣ 60 := by
    have h1 : Nat.lcm d c ∣ 60 := Nat.lcm_dvd hd hc
    have h2 : Nat.lcm d c = d * (c / Nat.gcd d c) := by
      unfold Nat.lcm
      exact Nat.mul_div_assoc d (Nat.gcd_dvd_right d c)
    rw [← h2]
    exact h1
  have hDdvd : pD n d c ∣ 60 := Nat.dvd_trans ⟨pT n d c, by rw [← tD]; exact Nat.mul_comm _ _⟩ hlcm
  have hD0 : 0 < pD n d c := Nat.pos_of_dvd_of_pos hDdvd (by decide)
  have hD60 : pD n d c ≤ 60 := Nat.le_of_dvd (by decide) hDdvd
  have key : pN n d c / pT n d c * 60 = (W + w) * pD n d c := by
    apply Nat.eq_of_mul_eq_mul_left (show 0 < pT n d c from t0)
    calc pT n d c * (pN n d c / pT n d c * 60) = pT n d c * (pN n d c / pT n d c) * 60 := by ac_rfl
      _ = (n * (c / Nat.gcd d c) + d / Nat.gcd d c) * 60 := by rw [tN, hN]
      _ = n * 60 * (c / Nat.gcd d c) + d / Nat.gcd d c * (w * c) := by rw [hcw, Nat.add_mul]; congr 1; ac_rfl
      _ = W * d * (c / Nat.gcd d c) + w * (d / Nat.gcd d c * c) := by rw [hW]; congr 1; ac_rfl
      _ = (W + w) * (d * (c / Nat.gcd d c)) := by rw [hdc, Nat.add_mul]; congr 1; ac_rfl
      _ = (W + w) * (pT n d c * pD n d c) := by rw [tD]
      _ = pT n d c * ((W + w) * pD n d c) := by ac_rfl
  have hNb : pN n d c / pT n d c ≤ 1000000000000000 := by
    have : (W + w) * pD n d c ≤ 1060 * 60 := Nat.mul_le_mul (by omega) hD60
    omega
  exact ⟨_, _, if_pos ⟨hNb, by omega⟩, hDdvd, hD0, key⟩
def wgt (x : Int) : Nat := if 9 ≤ x then 5 else if 5 ≤ x then 1 else 0
def wsum : List Int → Nat
  | [] => 0
  | x :: l => wgt x + wsum l
theorem wsum_app : ∀ a b : List Int, wsum (a ++ b) = wsum a + wsum b
  | [], b => by simp [wsum]
  | x :: a, b => by simp only [List.cons_append, wsum, wsum_app a b]; omega
theorem wgt_le (x : Int) : wgt x ≤ 5 := by
  unfold wgt
  split
  · omega
  · split <;> omega
theorem wsum_le : ∀ a : List Int, wsum a ≤ 5 * a.length
  | [] => by simp [wsum]
  | x :: a => by
    have h1 := wgt_le x
    have h2 := wsum_le a
    simp only [wsum, List.length_cons]
    omega
abbrev crv : List S83 := [⟨5, 60⟩, ⟨9, 12⟩]
theorem cyc_crv (x : Int) : cyc crv x = if 9 ≤ x then 12 else if 5 ≤ x then 60 else 0 := rfl
theorem usd_sixty : ∀ (rs : List Int) (n d W : Nat), d ∣ 60 → 0 < d → n * 60 = W * d → W + 5 * rs.length ≤ 1000 → ∃ n' d' : Nat, usd crv rs n d = ((n' : Int), (d' : Int), true) ∧ d' ∣ 60 ∧ 0 < d' ∧ n' * 60 = (W + wsum rs) * d'
  | [], n, d, W, h1, h2, h3, _ => ⟨n, d, rfl, h1, h2, by simpa [wsum] using h3⟩
  | x :: rs, n, d, W, h1, h2, h3, h4 => by
    simp only [List.length_cons] at h4
    have step : ∀ c w : Nat, cyc crv x = (c : Int) → wgt x = w → 0 < c → w * c = 60 → w ≤ 5 → ∃ n' d' : Nat, usd crv (x :: rs) n d = ((n' : Int), (d' : Int), true) ∧ d' ∣ 60 ∧ 0 < d' ∧ n' * 60 = (W + wsum (x :: rs)) * d' := by
      intro c w ec ew hc hcw hw
      obtain ⟨n1, d1, e, k1, k2, k3⟩ := plus_sixty (c := c) h1 h2 h3 (by omega) hcw (by omega)
      obtain ⟨n2, d2, e2, m1, m2, m3⟩ := usd_sixty rs n1 d1 (W + w) k1 k2 k3 (by omega)
      refine ⟨n2, d2, ?_, m1, m2, ?_⟩
      · simp only [usd, ec, Int.toNat_natCast, e, if_true]
        rw [if_neg (by omega)]
        exact e2
      · simp only [wsum, ew, ← Nat.add_assoc]
        exact m3
    have hcy := cyc_crv x
    by_cases h9 : 9 ≤ x
    · rw [if_pos h9] at hcy
      exact step 12 5 hcy (by unfold wgt; rw [if_pos h9]) (by decide) (by decide) (by decide)
    · rw [if_neg h9] at hcy
      by_cases h5 : 5 ≤ x
      · rw [if_pos h5] at hcy
        exact step 60 1 hcy (by unfold wgt; rw [if_neg h9, if_pos h5]) (by decide) (by decide) (by decide)
      · rw [if_neg h5] at hcy
        obtain ⟨n2, d2, e2, m1, m2, m3⟩ := usd_sixty rs n d W h1 h2 h3 (by omega)
        refine ⟨n2, d2, ?_, m1, m2, ?_⟩
        · simp only [usd]
          rw [if_pos hcy]
          exact e2
        · have : wgt x = 0 := by unfold wgt; rw [if_neg h9, if_neg h5]
          simp only [wsum, this, Nat.zero_add]
          exact m3
theorem crv_ok : CurveOk crv := by
  refine ⟨fun m hm => ?_, by decide⟩
  have : m = 0 ∨ m = 1 := by
    have : crv.length = 2 := rfl
    omega
  rcases this with rfl | rfl
  · exact ⟨by decide, fun h => by omega⟩
  · exact ⟨by decide, fun _ => by decide⟩
theorem fatigue_ev : Ev (fun k => impl_fatigueOk.f k crv) true := by
  unfold impl_fatigueOk.f
  refine ev_succ ?_
  simp only [impl_fatigueOk.l0, impl_in_eq, Option.bind_some]
  refine ev_pos (by decide +kernel) (ev_pos (by decide +kernel) (ev_pos (by decide +kernel) (ev_pos (by decide +kernel) (ev_pos (by decide +kernel) (ev_neg (by decide +kernel) (ev_succ ?_))))))
  simp only [impl_fatigueOk.l0, impl_in_eq, Option.bind_some]
  refine ev_pos (by decide +kernel) (ev_pos (by decide +kernel) (ev_pos (by decide +kernel) (ev_pos (by decide +kernel) (ev_pos (by decide +kernel) (ev_pos (by decide +kernel) (ev_pos (by decide +kernel) (ev_pos (by decide +kernel) (ev_neg (by decide +kernel) (ev_neg (by decide +kernel) (ev_succ ?_))))))))))
  simp only [impl_fatigueOk.l0, impl_in_eq, Option.bind_some]
  exact ev_neg (by decide +kernel) (Ev.now _)
theorem used_ev (rs : List Int) (hr : rs.length ≤ 40) (hb : ∀ x ∈ rs, 0 ≤ x ∧ x ≤ 11) : ∃ n d : Nat, Ev (fun k => impl_Used.f k crv rs) ((n : Int), (d : Int), true) ∧ 0 < d ∧ d ≤ 60 ∧ n ≤ 200 ∧ n * 60 = wsum rs * d := by
  obtain ⟨n, d, e, h1, h2, h3⟩ := usd_sixty rs 0 1 0 (by decide) (by decide) (by decide) (by omega)
  rw [Nat.zero_add] at h3
  have hd : d ≤ 60 := Nat.le_of_dvd (by decide) h1
  have hn : n ≤ 200 := by
    have h4 := wsum_le rs
    have : wsum rs * d ≤ 200 * 60 := Nat.mul_le_mul (by omega) hd
    omega
  refine ⟨n, d, ?_, h2, hd, hn, h3⟩
  obtain ⟨q, hq, iq⟩ := impl_all_ev rs 0 2000000 (by omega)
  obtain rfl : q = true := iq.2 (all_mem (fun x hx => by have := hb x hx; omega))
  have hu := impl_used_loop crv_ok rs hr rs.length 0 0 1 (by omega) (by omega) (by omega) (by omega)
  rw [List.drop_zero, e] at hu
  unfold impl_Used.f
  refine Ev.bind fatigue_ev (ev_pos (by trivial) (ev_neg (by omega) (Ev.bind hq (ev_succ ?_))))
  simp only [impl_Used.j0]
  exact ev_neg (by decide) hu
theorem sum_eq {n1 d1 n2 d2 n3 d3 A B : Nat} (h1 : n1 * 60 = A * d1) (h2 : n2 * 60 = B * d2) (h3 : n3 * 60 = (A + B) * d3) : (n1 * d2 + n2 * d1) * d3 = n3 * d1 * d2 := by
  apply Nat.eq_of_mul_eq_mul_left (show 0 < 60 by decide)
  calc 60 * ((n1 * d2 + n2 * d1) * d3) = (n1 * 60 * d2 + n2 * 60 * d1) * d3 := by grind
    _ = (A * d1 * d2 + B * d2 * d1) * d3 := by rw [h1, h2]
    _ = (A + B) * d3 * d1 * d2 := by grind
    _ = 60 * (n3 * d1 * d2) := by rw [← h3]; grind
theorem last_ev {n1 d1 n2 d2 n3 d3 A B : Nat} (b1 : 0 < d1 ∧ d1 ≤ 60 ∧ n1 ≤ 200) (b2 : 0 < d2 ∧ d2 ≤ 60 ∧ n2 ≤ 200) (b3 : 0 < d3 ∧ d3 ≤ 60 ∧ n3 ≤ 200) (h1 : n1 * 60 = A * d1) (h2 : n2 * 60 = B * d2) (h3 : n3 * 60 = (A + B) * d3) : Ev (fun k => laws_FnCycles.j2 k 2 false (n1 : Int) (d1 : Int) (n2 : Int) (d2 : Int) (n3 : Int) (d3 : Int)) true := by
  have e := sum_eq h1 h2 h3
  have m1 : n1 * d2 ≤ 200 * 60 := Nat.mul_le_mul b1.2.2 b2.2.1
  have m2 : n2 * d1 ≤ 200 * 60 := Nat.mul_le_mul b2.2.2 b1.2.1
  have m3 : n3 * d1 ≤ 200 * 60 := Nat.mul_le_mul b3.2.2 b1.2.1
  have m12 := Nat.add_le_add m1 m2
  have m4 := Nat.mul_le_mul m12 b3.2.1
  have m5 := Nat.mul_le_mul m3 b2.2.1
  have w1 : wrap64 ((n1 : Int) * (d2 : Int)) = ((n1 * d2 : Nat) : Int) := by rw [← Int.natCast_mul]; exact w64n (Nat.le_trans m1 (by decide))
  have w2 : wrap64 ((n2 : Int) * (d1 : Int)) = ((n2 * d1 : Nat) : Int) := by rw [← Int.natCast_mul]; exact w64n (Nat.le_trans m2 (by decide))
  have w3 : wrap64 ((n3 : Int) * (d1 : Int)) = ((n3 * d1 : Nat) : Int) := by rw [← Int.natCast_mul]; exact w64n (Nat.le_trans m3 (by decide))
  have w4 : wrap64 (((n1 * d2 : Nat) : Int) + ((n2 * d1 : Nat) : Int)) = ((n1 * d2 + n2 * d1 : Nat) : Int) := by rw [← Int.natCast_add]; exact w64n (Nat.le_trans m12 (by decide))
  have w5 : wrap64 (((n1 * d2 + n2 * d1 : Nat) : Int) * (d3 : Int)) = (((n1 * d2 + n2 * d1) * d3 : Nat) : Int) := by rw [← Int.natCast_mul]; exact w64n (Nat.le_trans m4 (by decide))
  have w6 : wrap64 (((n3 * d1 : Nat) : Int) * (d2 : Int)) = ((n3 * d1 * d2 : Nat) : Int) := by rw [← Int.natCast_mul]; exact w64n (Nat.le_trans m5 (by decide))
  refine ev_succ ?_
  simp only [laws_FnCycles.j2, w1, w2, w3, w4, w5, w6, e]
  refine ev_neg (by decide) (ev_pos (by trivial) ?_)
  simpa using Ev.now true
theorem tmod12 {v : Int} (h : 0 ≤ v) : 0 ≤ Int.tmod v 12 ∧ Int.tmod v 12 ≤ 11 := by
  rw [Int.tmod_eq_emod_of_nonneg h]
  omega
theorem cyc_loop {l : List Int} (hu : ∀ x ∈ l, 0 ≤ x ∧ x ≤ 255) (hL : l.length ≤ 1048576) : ∀ (d n : Nat) (a b : List Int), n + d = 10 → a.length = n → b.length = n → (∀ x ∈ a, 0 ≤ x ∧ x ≤ 11) → (∀ x ∈ b, 0 ≤ x ∧ x ≤ 11) → Ev (fun k => laws_FnCycles.l0 k l 2 crv a b (n : Int)) true := by
  intro d
  induction d with
  | zero =>
    intro n a b hn ha hb pa pb
    obtain ⟨n1, d1, u1, b1, b2, b3, b4⟩ := used_ev a (by omega) pa
    obtain ⟨n2, d2, u2, c1, c2, c3, c4⟩ := used_ev b (by omega) pb
    obtain ⟨n3, d3, u3, f1, f2, f3, f4⟩ := used_ev (a ++ b) (by rw [List.length_append]; omega) (fun x hx => (List.mem_append.mp hx).elim (pa x) (pb x))
    rw [wsum_app] at f4
    have last := last_ev ⟨b1, b2, b3⟩ ⟨c1, c2, c3⟩ ⟨f1, f2, f3⟩ b4 c4 f4
    refine ev_succ ?_
    simp only [laws_FnCycles.l0, Option.bind_some, List.nil_append, List.length_nil]
    refine ev_neg (by omega) (Ev.bind u1 (Ev.bind u2 (ev_pos (by omega) (ev_pos (by omega) (Ev.bind u3 (ev_pos (by trivial) (ev_pos (by trivial) (ev_pos (by trivial) (ev_neg (show ¬ ((d1 : Int) < 1) by omega) (ev_neg (show ¬ ((d2 : Int) < 1) by omega) ?_))))))))))
    have hz : decide ((d3 : Int) < 1) = false := decide_eq_false (by omega)
    show Ev (fun k => laws_FnCycles.j2 k 2 (decide ((d3 : Int) < 1)) (n1 : Int) (d1 : Int) (n2 : Int) (d2 : Int) (n3 : Int) (d3 : Int)) true
    rw [hz]
    exact last
  | succ d ih =>
    intro n a b hn ha hb pa pb
    have hw := w64_succ (n := n) (m := 100) (by omega) (by omega)
    have hw2 : wrap64 ((n : Int) + 10) = (n : Int) + 10 := w64 (by omega) (by omega)
    obtain ⟨v, e0, v0, _⟩ := at_ev hu hL (n : Int) (by omega) (by omega)
    obtain ⟨w, e1, w0, _⟩ := at_ev hu hL ((n : Int) + 10) (by omega) (by omega)
    have snoc : ∀ (q : List Int) (y : Int), (∀ x ∈ q, 0 ≤ x ∧ x ≤ 11) → 0 ≤ y → ∀ x ∈ q ++ [Int.tmod y 12], 0 ≤ x ∧ x ≤ 11 := by
      intro q y hq hy x hx
      rcases List.mem_append.mp hx with h | h
      · exact hq x h
      · rw [List.mem_singleton.mp h]
        exact tmod12 hy
    have h := ih (n + 1) (a ++ [Int.tmod v 12]) (b ++ [Int.tmod w 12]) (by omega) (by simp; omega) (by simp; omega) (snoc a v pa v0) (snoc b w pb w0)
    refine ev_succ ?_
    simp only [laws_FnCycles.l0, hw, hw2, e0, e1, Option.bind_some]
    exact ev_pos (by omega) (ev_pos (by omega) (ev_pos (by omega) h))
theorem FnCycles : laws_FnCycles.PureR := by
  intro l ⟨_, hu⟩
  refine Ev.rounds ?_
  unfold laws_FnCycles.f
  by_cases hL : l.length ≤ 1048576
  rotate_left
  · rw [big_big hL]
    exact Ev.now _
  rw [big_ev hL]
  simp only [Option.bind_some]
  refine ev_neg (by decide) ?_
  obtain ⟨r, lv, hd, hr⟩ := dcross_ev hL
  obtain ⟨ok, c, h1, h2, h3, h4⟩ := cross_all r lv (by omega)
  have main : Ev (fun k => laws_FnCycles.j0 k l false) true := by
    refine ev_succ ?_
    simp only [laws_FnCycles.j0]
    refine ev_neg (by decide) (Ev.bind up_ev ?_)
    exact cyc_loop hu hL 10 0 [] [] (by omega) rfl rfl (fun x hx => by cases hx) (fun x hx => by cases hx)
  refine Ev.bind hd (Ev.bind h1 (Ev.bind h2 (ev_neg (by simp) (Ev.bind h4 ?_))))
  have hdec : decide ((c : Int) > (r.length : Int)) = false := decide_eq_false (by omega)
  simp only [hdec]
  cases ok with
  | true => exact ev_pos (by trivial) (ev_pos (by trivial) (ev_pos (by trivial) (ev_neg (by omega) main)))
  | false => exact ev_neg (by decide) (ev_neg (by omega) main)

end Go.Proofs.Ytnphbpkpjinddaa.Pure
