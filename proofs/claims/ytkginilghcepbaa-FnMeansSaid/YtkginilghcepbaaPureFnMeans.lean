/- Proved here: the mean of drawn whole numbers that are alike is one of them, those missing left out; what is smoothed wholly is the last that was seen; no condition. -/
import Derived.Test.YtkginilghcepbaaPureDefFnMeans
namespace Go.Proofs.Ytkginilghcepbaa.Pure
open Go.RowKit Go.Proofs.Ytkginilghcepbaa.QFnMeans Go.Proofs.YtkginilghcepbaaW.PrintWords Go.Proofs.YtkginilghcepbaaW.PrintLast Go.Proofs.YtkginilghcepbaaW.PrintMore
set_option linter.unusedVariables false
set_option linter.unusedSimpArgs false

theorem ev_pos {c : Prop} [Decidable c] {α : Type} {A B : Nat → Option α} {r : α} (h : c) (k : Ev A r) : Ev (fun n => if c then A n else B n) r := by
  simpa only [if_pos h] using k
theorem ev_neg {c : Prop} [Decidable c] {α : Type} {A B : Nat → Option α} {r : α} (h : ¬ c) (k : Ev B r) : Ev (fun n => if c then A n else B n) r := by
  simpa only [if_neg h] using k
theorem ev_succ {α : Type} {g : Nat → Option α} {r : α} (h : Ev (fun k => g (k + 1)) r) : Ev g r := Ev.step (fun _ => rfl) h
theorem ex_succ {α : Type} {g : Nat → Option α} (h : ∃ r, Ev (fun k => g (k + 1)) r) : ∃ r, Ev g r := by
  obtain ⟨r, h⟩ := h
  exact ⟨r, ev_succ h⟩
theorem ev_one {α : Type} {g : Nat → Option α} {r q : α} (h : Ev g r) (h' : Ev g q) : r = q := by
  obtain ⟨K, hK⟩ := h
  obtain ⟨L, hL⟩ := h'
  have a := hK (max K L) (Nat.le_max_left _ _)
  have b := hL (max K L) (Nat.le_max_right _ _)
  exact Option.some.inj (a.symm.trans b)
theorem ev_bool {α : Type} {A B : Nat → Option α} {r : α} (b : Bool) (h1 : b = true → Ev A r) (h2 : b = false → Ev B r) : Ev (fun n => if b = true then A n else B n) r := by
  cases b with
  | true => exact ev_pos (by trivial) (h1 rfl)
  | false => exact ev_neg (by decide) (h2 rfl)
theorem bool_eq_of_iff {a b : Bool} {p : Prop} (h : a = true ↔ p) (h' : b = true ↔ p) : a = b := by
  rw [Bool.eq_iff_iff]
  exact h.trans h'.symm
theorem w64 {x : Int} (h0 : -9223372036854775808 ≤ x) (h1 : x ≤ 9223372036854775807) : wrap64 x = x := by
  unfold wrap64
  omega
theorem w64_succ {n m : Nat} (h : n < m) (hm : m ≤ 9223372036854775807) : wrap64 ((n : Int) + 1) = ((n + 1 : Nat) : Int) := by
  unfold wrap64
  omega
theorem rd_nat (l : List Int) (n : Nat) : rd l (n : Int) = l.getD n 0 := by
  unfold rd
  rw [Int.toNat_natCast]
theorem take_set_succ {α : Type} (d : α) {x0 x3 : List α} {n : Nat} (h : n < x0.length) (hl : x3.length = x0.length) (ht : x3.take n = x0.take n) : (x3.set n (x0.getD n d)).take (n + 1) = x0.take (n + 1) := by
  apply List.ext_getElem?
  intro i
  simp only [List.getElem?_take, List.getElem?_set]
  by_cases hi : i < n + 1
  · rw [if_pos hi, if_pos hi]
    by_cases he : n = i
    · subst he
      rw [if_pos rfl, if_pos (by omega), List.getD_eq_getElem?_getD, List.getElem?_eq_getElem h]
      rfl
    · rw [if_neg he]
      have := congrArg (fun l => l[i]?) ht
      simpa only [List.getElem?_take, if_pos (show i < n by omega)] using this
  · rw [if_neg hi, if_neg hi]
theorem u8_bounds {l : List Int} (h : ∀ x ∈ l, 0 ≤ x ∧ x ≤ 255) (n : Nat) : 0 ≤ l.getD n 0 ∧ l.getD n 0 ≤ 255 := by
  rw [List.getD_eq_getElem?_getD]
  cases e : l[n]? with
  | none => simp
  | some x =>
    exact h x (List.mem_of_getElem? e)
theorem getD_map {α β : Type} (c : α → β) (l : List α) (n : Nat) (d : α) : (l.map c).getD n (c d) = c (l.getD n d) := by
  simp only [List.getD_eq_getElem?_getD, List.getElem?_map]
  cases l[n]? <;> rfl
/-- It ends, with true just where p holds. -/
def EvB (g : Nat → Option Bool) (p : Prop) : Prop := ∃ b, Ev g b ∧ (b = true ↔ p)
theorem EvB.iff {g : Nat → Option Bool} {p q : Prop} (h : EvB g p) (h' : p ↔ q) : EvB g q := by
  obtain ⟨b, hb, ib⟩ := h
  exact ⟨b, hb, ib.trans h'⟩
theorem EvB.dec {c : Prop} [Decidable c] : EvB (fun _ => some (decide c)) c := ⟨decide c, Ev.now _, decide_eq_true_iff⟩
theorem EvB.ite {c : Prop} [Decidable c] {A : Nat → Option Bool} {p : Prop} (h : EvB A p) : EvB (fun n => if c then A n else some false) (c ∧ p) := by
  obtain ⟨b, hb, ib⟩ := h
  by_cases hc : c
  · exact ⟨b, ev_pos hc hb, ⟨fun h => ⟨hc, ib.1 h⟩, fun h => ib.2 h.2⟩⟩
  · exact ⟨false, ev_neg hc (Ev.now _), ⟨fun h => (Bool.false_ne_true h).elim, fun h => absurd h.1 hc⟩⟩
theorem EvB.ite_not {c : Prop} [Decidable c] {A : Nat → Option Bool} {p : Prop} (h : EvB A p) : EvB (fun n => if c then some false else A n) (¬ c ∧ p) := by
  obtain ⟨b, hb, ib⟩ := h
  by_cases hc : c
  · exact ⟨false, ev_pos hc (Ev.now _), ⟨fun h => (Bool.false_ne_true h).elim, fun h => absurd hc h.1⟩⟩
  · exact ⟨b, ev_neg hc hb, ⟨fun h => ⟨hc, ib.1 h⟩, fun h => ib.2 h.2⟩⟩
theorem EvB.bind {g A : Nat → Option Bool} {p q : Prop} (h : EvB g p) (h' : EvB A q) : EvB (fun n => (g n).bind fun t => if t = true then A n else some false) (p ∧ q) := by
  obtain ⟨b, hb, ib⟩ := h
  obtain ⟨c, hc, ic⟩ := h'
  cases b with
  | true => exact ⟨c, Ev.bind hb (ev_pos rfl hc), ⟨fun h => ⟨ib.1 rfl, ic.1 h⟩, fun h => ic.2 h.2⟩⟩
  | false => exact ⟨false, Ev.bind hb (ev_neg (by decide) (Ev.now _)), ⟨fun h => (Bool.false_ne_true h).elim, fun h => absurd (ib.2 h.1) (by decide)⟩⟩
theorem EvB.last {g : Nat → Option Bool} {p : Prop} (h : EvB g p) : EvB (fun n => (g n).bind fun t => some t) p := by
  obtain ⟨b, hb, ib⟩ := h
  exact ⟨b, Ev.bind hb (Ev.now _), ib⟩
theorem EvB.same {g g' : Nat → Option Bool} {p : Prop} (h : EvB g p) (h' : EvB g' p) : ∃ b, Ev g b ∧ Ev g' b ∧ (b = true ↔ p) := by
  obtain ⟨b, hb, ib⟩ := h
  obtain ⟨c, hc, ic⟩ := h'
  obtain rfl : c = b := bool_eq_of_iff ic ib
  exact ⟨c, hb, hc, ib⟩
theorem EvB.bindE {g A B : Nat → Option Bool} {p q : Prop} (hB : Ev B false) (h : EvB g p) (h' : EvB A q) : EvB (fun n => (g n).bind fun t => if t = true then A n else B n) (p ∧ q) := by
  obtain ⟨b, hb, ib⟩ := h
  obtain ⟨c, hc, ic⟩ := h'
  cases b with
  | true => exact ⟨c, Ev.bind hb (ev_pos rfl hc), ⟨fun h => ⟨ib.1 rfl, ic.1 h⟩, fun h => ic.2 h.2⟩⟩
  | false => exact ⟨false, Ev.bind hb (ev_neg (by decide) hB), ⟨fun h => (Bool.false_ne_true h).elim, fun h => absurd (ib.2 h.1) (by decide)⟩⟩
theorem EvB.iteE {c : Prop} [Decidable c] {A B : Nat → Option Bool} {p : Prop} (hB : Ev B false) (h : EvB A p) : EvB (fun n => if c then A n else B n) (c ∧ p) := by
  obtain ⟨b, hb, ib⟩ := h
  by_cases hc : c
  · exact ⟨b, ev_pos hc hb, ⟨fun h => ⟨hc, ib.1 h⟩, fun h => ib.2 h.2⟩⟩
  · exact ⟨false, ev_neg hc hB, ⟨fun h => (Bool.false_ne_true h).elim, fun h => absurd h.1 hc⟩⟩
theorem EvB.bindN {g : Nat → Option Bool} {J : Nat → Bool → Option Bool} {p q : Prop} (hB : Ev (fun n => J n true) false) (h : EvB g p) (h' : EvB (fun n => J n false) q) : EvB (fun n => (g n).bind fun t => J n (!t)) (p ∧ q) := by
  obtain ⟨b, hb, ib⟩ := h
  obtain ⟨c, hc, ic⟩ := h'
  cases b with
  | true => exact ⟨c, Ev.bind hb hc, ⟨fun h => ⟨ib.1 rfl, ic.1 h⟩, fun h => ic.2 h.2⟩⟩
  | false => exact ⟨false, Ev.bind hb hB, ⟨fun h => (Bool.false_ne_true h).elim, fun h => absurd (ib.2 h.1) (by decide)⟩⟩
theorem EvB.succ {g : Nat → Option Bool} {p : Prop} (h : EvB (fun k => g (k + 1)) p) : EvB g p := by
  obtain ⟨b, hb, ib⟩ := h
  exact ⟨b, ev_succ hb, ib⟩
theorem EvB.true_ {p : Prop} (h : p) : EvB (fun _ => some true) p := ⟨true, Ev.now _, ⟨fun _ => h, fun _ => rfl⟩⟩
theorem EvB.false_ {p : Prop} (h : ¬ p) : EvB (fun _ => some false) p := ⟨false, Ev.now _, ⟨fun e => (Bool.false_ne_true e).elim, fun e => absurd e h⟩⟩
theorem EvB.pos {c : Prop} [Decidable c] {A B : Nat → Option Bool} {p : Prop} (hc : c) (h : EvB A p) : EvB (fun n => if c then A n else B n) p := by
  simpa only [if_pos hc] using h
theorem EvB.neg {c : Prop} [Decidable c] {A B : Nat → Option Bool} {p : Prop} (hc : ¬ c) (h : EvB B p) : EvB (fun n => if c then A n else B n) p := by
  simpa only [if_neg hc] using h

/-! whole numbers in floating point: what is exact -/
open Ieee (Datum) in
/-- What a datum stands for is n * 2 ^ e. -/
def RepE (D : Datum) (n e : Int) : Prop := ∃ s m p, ∃ a b : Nat, D = .number s m p ∧ (a : Int) + e = b + p ∧ Ieee.signed s m a = n * 2 ^ b
/-- What a datum stands for is the whole number n. -/
abbrev Rep (D : Ieee.Datum) (n : Int) : Prop := RepE D n 0
def sg (s : Bool) : Int := if s then -1 else 1
theorem signed_eq (s : Bool) (m a : Nat) : Ieee.signed s m a = sg s * m * 2 ^ a := by
  unfold Ieee.signed sg
  rw [Nat.shiftLeft_eq]
  split
  · rw [Int.natCast_mul, Int.natCast_pow]; show -((m : Int) * 2 ^ a) = _; rw [Int.neg_mul, Int.one_mul, Int.neg_mul]
  · rw [Int.natCast_mul, Int.natCast_pow, Int.one_mul]; rfl
theorem p2 (b : Nat) : (0 : Int) < 2 ^ b := Int.pow_pos (by decide)
theorem cancel2 {x y : Int} (b : Nat) (h : x * 2 ^ b = y * 2 ^ b) : x = y := Int.eq_of_mul_eq_mul_right (Int.ne_of_gt (p2 b)) h
theorem sg_sq (s : Bool) : sg s * sg s = 1 := by cases s <;> rfl
theorem sg_xor (s t : Bool) : sg (s ^^ t) = sg s * sg t := by cases s <;> cases t <;> rfl
/-- All ways to write the place are alike. -/
theorem rep_all {s : Bool} {m : Nat} {p n e : Int} (h : RepE (.number s m p) n e) (a b : Nat) (hab : (a : Int) + e = b + p) : sg s * m * 2 ^ a = n * 2 ^ b := by
  obtain ⟨s', m', p', a', b', hD, hp, hv⟩ := h
  cases hD
  rw [signed_eq] at hv
  apply cancel2 b'
  have e : a + b' = a' + b := by omega
  rw [Int.mul_assoc, ← Int.pow_add, e, Int.pow_add, ← Int.mul_assoc, hv, Int.mul_assoc, Int.mul_comm (2 ^ b') (2 ^ b), ← Int.mul_assoc]
theorem rep_of {s : Bool} {m : Nat} {p n e : Int} (a b : Nat) (hab : (a : Int) + e = b + p) (h : sg s * m * 2 ^ a = n * 2 ^ b) : RepE (.number s m p) n e := ⟨s, m, p, a, b, rfl, hab, by rw [signed_eq]; exact h⟩
theorem rep_num {D : Ieee.Datum} {n e : Int} (h : RepE D n e) : ∃ s m p, D = .number s m p := by
  obtain ⟨s, m, p, _, _, h, _⟩ := h
  exact ⟨s, m, p, h⟩
theorem sg_natAbs (n : Int) : sg (decide (n < 0)) * n.natAbs = n := by
  unfold sg
  by_cases h : n < 0
  · simp only [h, decide_true, if_true]; omega
  · simp only [h, decide_false]; simp; omega
theorem rep_opp {D : Ieee.Datum} {n e : Int} (h : RepE D n e) : RepE D.opposite (-n) e := by
  obtain ⟨s, m, p, rfl⟩ := rep_num h
  refine rep_of ((p - e).toNat) ((e - p).toNat) (by omega) ?_
  have := rep_all h (p - e).toNat (e - p).toNat (by omega)
  rw [Int.neg_mul, ← this, show sg (!s) = -sg s by cases s <;> rfl, Int.neg_mul, Int.neg_mul]
theorem rep_sum {D E : Ieee.Datum} {x y e : Int} (h : RepE D x e) (h' : RepE E y e) : ∃ S, D.sum E = some S ∧ RepE S (x + y) e := by
  obtain ⟨s, m, i, rfl⟩ := rep_num h
  obtain ⟨t, n, j, rfl⟩ := rep_num h'
  refine ⟨_, rfl, ?_⟩
  refine rep_of (min i j - e).toNat (e - min i j).toNat (by omega) ?_
  generalize hT : Ieee.signed s m (i - min i j).toNat + Ieee.signed t n (j - min i j).toNat = T
  have e1 := rep_all h ((i - min i j).toNat + (min i j - e).toNat) (e - min i j).toNat (by omega)
  have e2 := rep_all h' ((j - min i j).toNat + (min i j - e).toNat) (e - min i j).toNat (by omega)
  have e0 : sg (if T = 0 then s && t else decide (T < 0)) * T.natAbs = T := by
    split
    · rename_i h0; rw [h0]; simp
    · exact sg_natAbs T
  rw [e0, ← hT, signed_eq, signed_eq, Int.add_mul, Int.mul_assoc, ← Int.pow_add, e1, Int.mul_assoc (sg t * n), ← Int.pow_add, e2, Int.add_mul]
theorem rep_product {D E : Ieee.Datum} {x y e d : Int} (h : RepE D x e) (h' : RepE E y d) : ∃ S, D.product E = some S ∧ RepE S (x * y) (e + d) := by
  obtain ⟨s, m, i, rfl⟩ := rep_num h
  obtain ⟨t, n, j, rfl⟩ := rep_num h'
  refine ⟨_, rfl, ?_⟩
  have e1 := rep_all h (i - e).toNat (e - i).toNat (by omega)
  have e2 := rep_all h' (j - d).toNat (d - j).toNat (by omega)
  refine rep_of ((i - e).toNat + (j - d).toNat) ((e - i).toNat + (d - j).toNat) (by omega) ?_
  rw [sg_xor, Int.natCast_mul, Int.pow_add, Int.pow_add]
  calc sg s * sg t * ((m : Int) * n) * (2 ^ (i - e).toNat * 2 ^ (j - d).toNat) = (sg s * m * 2 ^ (i - e).toNat) * (sg t * n * 2 ^ (j - d).toNat) := by ac_rfl
    _ = x * y * (2 ^ (e - i).toNat * 2 ^ (d - j).toNat) := by rw [e1, e2]; ac_rfl
theorem log2_mul2 {m : Nat} (h : m ≠ 0) (a : Nat) : (m * 2 ^ a).log2 = m.log2 + a := by
  induction a with
  | zero => simp
  | succ a ih =>
    rw [Nat.pow_succ, ← Nat.mul_assoc, Nat.mul_comm, Nat.log2_two_mul (by have := Nat.two_pow_pos a; exact Nat.mul_ne_zero h (by omega)), ih]
    omega
theorem cut_exact (s : Bool) (N d : Nat) (hN : 0 < N) : Ieee.Toward.even.cut s (N * 2 ^ d) d = N := by
  have hl : min d ((N * 2 ^ d).log2 + 2) = d := by rw [log2_mul2 (by omega)]; omega
  have hp := Nat.two_pow_pos d
  unfold Ieee.Toward.cut
  simp only [hl, Nat.shiftLeft_eq, Nat.one_mul, Nat.mul_mod_left, Nat.mul_div_cancel _ hp, Nat.mul_zero]
  have h1 : decide (2 ^ d < 0) = false := by simp
  have h2 : (2 ^ d == 0) = false := by simp
  simp [h1, h2]
theorem read_word {s : Bool} {k L : Nat} (h1 : L = 0 ∨ 2 ^ 52 ≤ k) (h2 : k < 2 ^ 53) (h3 : L ≤ 2045) : Ieee.double.read (Ieee.double.word s (L * 2 ^ 52 + k)) = .number s k (-1074 + L) := by
  have hw : Ieee.double.signWeight = 2 ^ 63 := rfl
  have hb : Ieee.double.binade = 2 ^ 52 := rfl
  have hi : Ieee.double.infRung = 2047 * 2 ^ 52 := rfl
  have hp : Ieee.double.leastPlace = -1074 := rfl
  have hr : Ieee.double.word s (L * 2 ^ 52 + k) % 2 ^ 63 = L * 2 ^ 52 + k := by
    unfold Ieee.Format.word; rw [hw]; split <;> omega
  have hs : (Ieee.double.word s (L * 2 ^ 52 + k) / 2 ^ 63 % 2 == 1) = s := by
    unfold Ieee.Format.word; rw [hw]; cases s
    · simp only [Bool.false_eq_true, if_false, beq_eq_false_iff_ne]; omega
    · simp only [if_true, beq_iff_eq]; omega
  unfold Ieee.Format.read
  simp only [hw, hb, hi, hp, hr, hs]
  by_cases hk : L * 2 ^ 52 + k < 2 ^ 52
  · rw [if_pos hk, show L = 0 by omega]; simp
  · rw [if_neg hk, if_pos (by omega), show 2 ^ 52 + (L * 2 ^ 52 + k) % 2 ^ 52 = k by omega, show (L * 2 ^ 52 + k) / 2 ^ 52 - 1 = L by omega]
theorem rep_write {s : Bool} {m : Nat} {p n e : Int} (h : RepE (.number s m p) n e) (hn : n.natAbs < 2 ^ 53) (he : -1074 ≤ e) (he' : e ≤ 104) : RepE (Ieee.double.read (Ieee.double.nearest s m p)) n e := by
  unfold Ieee.Format.nearest
  by_cases hm : m = 0
  · rw [if_pos hm]
    have e1 := rep_all h (p - e).toNat (e - p).toNat (by omega)
    rw [hm] at e1
    have : n = 0 := cancel2 (e - p).toNat (by rw [← e1]; simp)
    rw [this]
    exact ⟨s, 0, -1074, 0, (1074 + e).toNat, by cases s <;> rfl, by omega, by rw [signed_eq]; simp⟩
  rw [if_neg hm]
  have e1 := rep_all h (p - e).toNat (e - p).toNat (by omega)
  have hab : ∀ a b : Nat, (a : Int) + e = b + p → m * 2 ^ a = n.natAbs * 2 ^ b := by
    intro a b hab
    have e2 := congrArg Int.natAbs (rep_all h a b hab)
    rw [Int.natAbs_mul, Int.natAbs_mul, Int.natAbs_mul, show (sg s).natAbs = 1 by cases s <;> rfl, Nat.one_mul, Int.natAbs_natCast, Int.natAbs_pow, Int.natAbs_pow] at e2
    exact e2
  have hN : n.natAbs ≠ 0 := by
    intro h0
    have := hab (p - e).toNat (e - p).toNat (by omega)
    rw [h0, Nat.zero_mul] at this
    have h2 := Nat.two_pow_pos (p - e).toNat
    exact (Nat.mul_ne_zero hm (by omega)) this
  have hsg : sg s * n.natAbs = n := by
    apply cancel2 (e - p).toNat
    have e2 := hab (p - e).toNat (e - p).toNat (by omega)
    have e3 : (m : Int) * 2 ^ (p - e).toNat = n.natAbs * 2 ^ (e - p).toNat := by have := congrArg (fun z : Nat => (z : Int)) e2; simpa [Int.natCast_mul, Int.natCast_pow] using this
    rw [Int.mul_assoc, ← e3, ← e1, Int.mul_assoc]
  generalize hNN : n.natAbs = N at *
  have ht : p + m.log2 = N.log2 + e := by
    have e2 := congrArg Nat.log2 (hab (p - e).toNat (e - p).toNat (by omega))
    rw [log2_mul2 hm, log2_mul2 hN] at e2
    omega
  have htt : N.log2 ≤ 52 := by have := (Nat.log2_lt hN).2 hn; omega
  have hlast : max (p + m.log2 - Ieee.double.fractionBits) Ieee.double.leastPlace = max ((N.log2 : Int) + e - 52) (-1074) := by
    rw [ht]; rfl
  dsimp only
  rw [hlast]
  generalize hl : max ((N.log2 : Int) + e - 52) (-1074) = l
  have hle : l ≤ e := by omega
  have hkept : Ieee.Toward.even.cut s (m <<< (p - l).toNat) (l - p).toNat = N * 2 ^ (e - l).toNat := by
    rw [Nat.shiftLeft_eq]
    by_cases hp : l ≤ p
    · rw [show (l - p).toNat = 0 by omega, hab (p - l).toNat (e - l).toNat (by omega)]
      have := cut_exact s (N * 2 ^ (e - l).toNat) 0 (by have := Nat.two_pow_pos (e - l).toNat; exact Nat.pos_of_ne_zero (Nat.mul_ne_zero hN (by omega)))
      simpa using this
    · rw [show (p - l).toNat = 0 by omega]
      have e2 := hab 0 (e - p).toNat (by omega)
      rw [e2, show (e - p).toNat = (e - l).toNat + (l - p).toNat by omega, Nat.pow_add, ← Nat.mul_assoc]
      exact cut_exact s _ _ (by have := Nat.two_pow_pos (e - l).toNat; exact Nat.pos_of_ne_zero (Nat.mul_ne_zero hN (by omega)))
  rw [hkept]
  have hk1 : (l + 1074).toNat = 0 ∨ 2 ^ 52 ≤ N * 2 ^ (e - l).toNat := by
    by_cases hl0 : l + 1074 ≤ 0
    · exact .inl (by omega)
    refine .inr ?_
    have h1 : 2 ^ N.log2 ≤ N := Nat.log2_self_le hN
    have h2 := Nat.mul_le_mul_right (2 ^ (e - l).toNat) h1
    rwa [← Nat.pow_add, show N.log2 + (e - l).toNat = 52 by omega] at h2
  have hk2 : N * 2 ^ (e - l).toNat < 2 ^ 53 := by
    have h1 : N < 2 ^ (N.log2 + 1) := Nat.lt_log2_self
    have h2 := Nat.mul_lt_mul_of_pos_right h1 (Nat.two_pow_pos (e - l).toNat)
    rw [← Nat.pow_add] at h2
    exact Nat.lt_of_lt_of_le h2 (Nat.pow_le_pow_right (by decide) (by omega))
  have hL : (l - Ieee.double.leastPlace).toNat = (l + 1074).toNat := by
    rw [show Ieee.double.leastPlace = -1074 from rfl]; omega
  rw [hL, show Ieee.double.binade = 2 ^ 52 from rfl, show Ieee.double.infRung = 2047 * 2 ^ 52 from rfl]
  have hll : (l + 1074).toNat ≤ 2045 := by omega
  rw [Nat.min_eq_left (by omega), read_word hk1 hk2 hll]
  refine rep_of 0 (e - l).toNat (by omega) ?_
  rw [Int.natCast_mul, Int.natCast_pow, Int.pow_zero, Int.mul_one, ← Int.mul_assoc, hsg]
  rfl
theorem read_word32 {s : Bool} {k L : Nat} (h1 : L = 0 ∨ 2 ^ 23 ≤ k) (h2 : k < 2 ^ 24) (h3 : L ≤ 253) : Ieee.single.read (Ieee.single.word s (L * 2 ^ 23 + k)) = .number s k (-149 + L) := by
  have hw : Ieee.single.signWeight = 2 ^ 31 := rfl
  have hb : Ieee.single.binade = 2 ^ 23 := rfl
  have hi : Ieee.single.infRung = 255 * 2 ^ 23 := rfl
  have hp : Ieee.single.leastPlace = -149 := rfl
  have hr : Ieee.single.word s (L * 2 ^ 23 + k) % 2 ^ 31 = L * 2 ^ 23 + k := by
    unfold Ieee.Format.word; rw [hw]; split <;> omega
  have hs : (Ieee.single.word s (L * 2 ^ 23 + k) / 2 ^ 31 % 2 == 1) = s := by
    unfold Ieee.Format.word; rw [hw]; cases s
    · simp only [Bool.false_eq_true, if_false, beq_eq_false_iff_ne]; omega
    · simp only [if_true, beq_iff_eq]; omega
  unfold Ieee.Format.read
  simp only [hw, hb, hi, hp, hr, hs]
  by_cases hk : L * 2 ^ 23 + k < 2 ^ 23
  · rw [if_pos hk, show L = 0 by omega]; simp
  · rw [if_neg hk, if_pos (by omega), show 2 ^ 23 + (L * 2 ^ 23 + k) % 2 ^ 23 = k by omega, show (L * 2 ^ 23 + k) / 2 ^ 23 - 1 = L by omega]
theorem rep_write32 {s : Bool} {m : Nat} {p n e : Int} (h : RepE (.number s m p) n e) (hn : n.natAbs < 2 ^ 24) (he : -149 ≤ e) (he' : e ≤ 104) : RepE (Ieee.single.read (Ieee.single.nearest s m p)) n e := by
  unfold Ieee.Format.nearest
  by_cases hm : m = 0
  · rw [if_pos hm]
    have e1 := rep_all h (p - e).toNat (e - p).toNat (by omega)
    rw [hm] at e1
    have : n = 0 := cancel2 (e - p).toNat (by rw [← e1]; simp)
    rw [this]
    exact ⟨s, 0, -149, 0, (149 + e).toNat, by cases s <;> rfl, by omega, by rw [signed_eq]; simp⟩
  rw [if_neg hm]
  have e1 := rep_all h (p - e).toNat (e - p).toNat (by omega)
  have hab : ∀ a b : Nat, (a : Int) + e = b + p → m * 2 ^ a = n.natAbs * 2 ^ b := by
    intro a b hab
    have e2 := congrArg Int.natAbs (rep_all h a b hab)
    rw [Int.natAbs_mul, Int.natAbs_mul, Int.natAbs_mul, show (sg s).natAbs = 1 by cases s <;> rfl, Nat.one_mul, Int.natAbs_natCast, Int.natAbs_pow, Int.natAbs_pow] at e2
    exact e2
  have hN : n.natAbs ≠ 0 := by
    intro h0
    have := hab (p - e).toNat (e - p).toNat (by omega)
    rw [h0, Nat.zero_mul] at this
    have h2 := Nat.two_pow_pos (p - e).toNat
    exact (Nat.mul_ne_zero hm (by omega)) this
  have hsg : sg s * n.natAbs = n := by
    apply cancel2 (e - p).toNat
    have e2 := hab (p - e).toNat (e - p).toNat (by omega)
    have e3 : (m : Int) * 2 ^ (p - e).toNat = n.natAbs * 2 ^ (e - p).toNat := by have := congrArg (fun z : Nat => (z : Int)) e2; simpa [Int.natCast_mul, Int.natCast_pow] using this
    rw [Int.mul_assoc, ← e3, ← e1, Int.mul_assoc]
  generalize hNN : n.natAbs = N at *
  have ht : p + m.log2 = N.log2 + e := by
    have e2 := congrArg Nat.log2 (hab (p - e).toNat (e - p).toNat (by omega))
    rw [log2_mul2 hm, log2_mul2 hN] at e2
    omega
  have htt : N.log2 ≤ 23 := by have := (Nat.log2_lt hN).2 hn; omega
  have hlast : max (p + m.log2 - Ieee.single.fractionBits) Ieee.single.leastPlace = max ((N.log2 : Int) + e - 23) (-149) := by
    rw [ht]; rfl
  dsimp only
  rw [hlast]
  generalize hl : max ((N.log2 : Int) + e - 23) (-149) = l
  have hle : l ≤ e := by omega
  have hkept : Ieee.Toward.even.cut s (m <<< (p - l).toNat) (l - p).toNat = N * 2 ^ (e - l).toNat := by
    rw [Nat.shiftLeft_eq]
    by_cases hp : l ≤ p
    · rw [show (l - p).toNat = 0 by omega, hab (p - l).toNat (e - l).toNat (by omega)]
      have := cut_exact s (N * 2 ^ (e - l).toNat) 0 (by have := Nat.two_pow_pos (e - l).toNat; exact Nat.pos_of_ne_zero (Nat.mul_ne_zero hN (by omega)))
      simpa using this
    · rw [show (p - l).toNat = 0 by omega]
      have e2 := hab 0 (e - p).toNat (by omega)
      rw [e2, show (e - p).toNat = (e - l).toNat + (l - p).toNat by omega, Nat.pow_add, ← Nat.mul_assoc]
      exact cut_exact s _ _ (by have := Nat.two_pow_pos (e - l).toNat; exact Nat.pos_of_ne_zero (Nat.mul_ne_zero hN (by omega)))
  rw [hkept]
  have hk1 : (l + 149).toNat = 0 ∨ 2 ^ 23 ≤ N * 2 ^ (e - l).toNat := by
    by_cases hl0 : l + 149 ≤ 0
    · exact .inl (by omega)
    refine .inr ?_
    have h1 : 2 ^ N.log2 ≤ N := Nat.log2_self_le hN
    have h2 := Nat.mul_le_mul_right (2 ^ (e - l).toNat) h1
    rwa [← Nat.pow_add, show N.log2 + (e - l).toNat = 23 by omega] at h2
  have hk2 : N * 2 ^ (e - l).toNat < 2 ^ 24 := by
    have h1 : N < 2 ^ (N.log2 + 1) := Nat.lt_log2_self
    have h2 := Nat.mul_lt_mul_of_pos_right h1 (Nat.two_pow_pos (e - l).toNat)
    rw [← Nat.pow_add] at h2
    exact Nat.lt_of_lt_of_le h2 (Nat.pow_le_pow_right (by decide) (by omega))
  have hL : (l - Ieee.single.leastPlace).toNat = (l + 149).toNat := by
    rw [show Ieee.single.leastPlace = -149 from rfl]; omega
  rw [hL, show Ieee.single.binade = 2 ^ 23 from rfl, show Ieee.single.infRung = 255 * 2 ^ 23 from rfl]
  have hll : (l + 149).toNat ≤ 253 := by omega
  rw [Nat.min_eq_left (by omega), read_word32 hk1 hk2 hll]
  refine rep_of 0 (e - l).toNat (by omega) ?_
  rw [Int.natCast_mul, Int.natCast_pow, Int.pow_zero, Int.mul_one, ← Int.mul_assoc, hsg]
  rfl
/-- The float is the whole number n. -/
def Z (x : Fl) (n : Int) : Prop := ∃ b, x = some b ∧ Rep (Ieee.double.read b) n
theorem rep_nan {D : Ieee.Datum} {n e : Int} (h : RepE D n e) : D.isNaN = false := by obtain ⟨s, m, p, rfl⟩ := rep_num h; rfl
theorem z_write {D : Ieee.Datum} {n : Int} (h : Rep D n) (hn : n.natAbs < 2 ^ 53) : Z (cn .f64 (Ieee.double.write D)) n := by
  obtain ⟨s, m, p, rfl⟩ := rep_num h
  have h2 := rep_write h hn (by decide) (by decide)
  exact ⟨_, cn_not (rep_nan h2), h2⟩
theorem rep_whole (n : Int) : Rep (.number (n < 0) n.natAbs 0) n := rep_of 0 0 rfl (by rw [sg_natAbs])
theorem z_fint {n : Int} (hn : n.natAbs < 2 ^ 53) : Z (fint .f64 n) n := z_write (rep_whole n) hn
theorem z_const {b : Nat} {n : Int} (h : Rep (Ieee.double.read b) n) : Z (cn .f64 b) n := ⟨b, cn_not (rep_nan h), h⟩
theorem z_zero : Z (cn .f64 0) 0 := z_const ⟨false, 0, -1074, 0, 1074, rfl, by decide, by rw [signed_eq, Int.zero_mul]; rfl⟩
theorem z_one : Z (cn .f64 4607182418800017408) 1 := z_const ⟨false, 4503599627370496, -52, 0, 52, rfl, by decide, by decide⟩
theorem z_op {op : BinOp} {g : Ieee.Format → Nat → Nat → Option Nat} (hop : ∀ a b, floatBits op .f64 a b = g Ieee.double a b) {a b : Nat} {S : Ieee.Datum} {n : Int} (hg : g Ieee.double a b = some (Ieee.double.write S)) (hS : Rep S n) (hn : n.natAbs < 2 ^ 53) : Z (fop op .f64 (some a) (some b)) n := by
  unfold fop
  show Z ((floatBits op .f64 a b).bind fun r => cn .f64 r) n
  rw [hop, hg]
  exact z_write hS hn
theorem z_add {x y : Fl} {m n : Int} (hx : Z x m) (hy : Z y n) (h : (m + n).natAbs < 2 ^ 53) : Z (fop .add .f64 x y) (m + n) := by
  obtain ⟨a, rfl, ha⟩ := hx
  obtain ⟨b, rfl, hb⟩ := hy
  obtain ⟨S, e, hS⟩ := rep_sum ha hb
  exact z_op (g := Ieee.Format.add) (fun _ _ => rfl) (by unfold Ieee.Format.add; rw [e]; rfl) hS h
theorem z_sub {x y : Fl} {m n : Int} (hx : Z x m) (hy : Z y n) (h : (m - n).natAbs < 2 ^ 53) : Z (fop .sub .f64 x y) (m - n) := by
  obtain ⟨a, rfl, ha⟩ := hx
  obtain ⟨b, rfl, hb⟩ := hy
  obtain ⟨S, e, hS⟩ := rep_sum ha (rep_opp hb)
  exact z_op (g := Ieee.Format.sub) (fun _ _ => rfl) (by unfold Ieee.Format.sub; rw [e]; rfl) hS h
theorem z_mul {x y : Fl} {m n : Int} (hx : Z x m) (hy : Z y n) (h : (m * n).natAbs < 2 ^ 53) : Z (fop .mul .f64 x y) (m * n) := by
  obtain ⟨a, rfl, ha⟩ := hx
  obtain ⟨b, rfl, hb⟩ := hy
  obtain ⟨S, e, hS⟩ := rep_product ha hb
  exact z_op (g := Ieee.Format.mul) (fun _ _ => rfl) (by unfold Ieee.Format.mul; rw [e]; rfl) hS h
theorem rep_order {D E : Ieee.Datum} {x y e : Int} (h : RepE D x e) (h' : RepE E y e) : D.order E = some (compare x y) := by
  obtain ⟨s, m, i, rfl⟩ := rep_num h
  obtain ⟨t, n, j, rfl⟩ := rep_num h'
  show some (compare (Ieee.signed s m (i - min i j).toNat) (Ieee.signed t n (j - min i j).toNat)) = _
  have e1 := rep_all h ((i - min i j).toNat + (min i j - e).toNat) (e - min i j).toNat (by omega)
  have e2 := rep_all h' ((j - min i j).toNat + (min i j - e).toNat) (e - min i j).toNat (by omega)
  rw [Int.pow_add, ← Int.mul_assoc, ← signed_eq] at e1 e2
  generalize Ieee.signed s m (i - min i j).toNat = X at *
  generalize Ieee.signed t n (j - min i j).toNat = Y at *
  have p1 := p2 (min i j - e).toNat
  have p3 := p2 (e - min i j).toNat
  have l : X < Y ↔ x < y := by
    constructor
    · intro h
      have h2 := Int.mul_lt_mul_of_pos_right h p1
      rw [e1, e2] at h2
      exact Int.lt_of_mul_lt_mul_right h2 (Int.le_of_lt p3)
    · intro h
      have h2 := Int.mul_lt_mul_of_pos_right h p3
      rw [← e1, ← e2] at h2
      exact Int.lt_of_mul_lt_mul_right h2 (Int.le_of_lt p1)
  have q : X = Y ↔ x = y := by
    constructor
    · intro h
      subst h
      exact cancel2 _ (e1.symm.trans e2)
    · intro h
      subst h
      exact cancel2 _ (e1.trans e2.symm)
  show some (compareOfLessAndEq X Y) = some (compareOfLessAndEq x y)
  unfold compareOfLessAndEq
  simp only [l, q]
theorem z_ord {x y : Fl} {m n : Int} (hx : Z x m) (hy : Z y n) : ford .f64 x y = some (compare m n) := by
  obtain ⟨a, rfl, ha⟩ := hx
  obtain ⟨b, rfl, hb⟩ := hy
  exact rep_order ha hb
theorem cmpI (m n : Int) : compare m n = if m < n then .lt else if m = n then .eq else .gt := rfl
theorem z_eql {x y : Fl} {m n : Int} (hx : Z x m) (hy : Z y n) : fcmp .eql .f64 x y = decide (m = n) := by
  unfold fcmp; simp only [z_ord hx hy, cmpI]
  by_cases h1 : m < n
  · have : m ≠ n := by omega
    simp [h1, this]
  · by_cases h2 : m = n <;> simp [h1, h2]
theorem z_neq {x y : Fl} {m n : Int} (hx : Z x m) (hy : Z y n) : fcmp .neq .f64 x y = decide (m ≠ n) := by
  unfold fcmp; simp only [z_ord hx hy, cmpI]
  by_cases h1 : m < n
  · have : m ≠ n := by omega
    simp [h1, this]
  · by_cases h2 : m = n <;> simp [h1, h2]
theorem z_lss {x y : Fl} {m n : Int} (hx : Z x m) (hy : Z y n) : fcmp .lss .f64 x y = decide (m < n) := by
  unfold fcmp; simp only [z_ord hx hy, cmpI]
  by_cases h1 : m < n
  · simp [h1]
  · by_cases h2 : m = n <;> simp [h1, h2]

/-! quotients and opposites of whole numbers -/
theorem rep_quotient {D E : Ieee.Datum} {q d : Int} (h : Rep D (q * d)) (h' : Rep E d) (hd : d ≠ 0) (hq : q.natAbs < 2 ^ 53) : ∃ S, D.quotient 54 E = some S ∧ Rep S q := by
  obtain ⟨s, m, i, rfl⟩ := rep_num h
  obtain ⟨t, n, j, rfl⟩ := rep_num h'
  have e1 := rep_all h i.toNat (-i).toNat (by omega)
  have e2 := rep_all h' j.toNat (-j).toNat (by omega)
  have hn : n ≠ 0 := by
    intro h0
    subst h0
    apply hd
    exact cancel2 (-j).toNat (by rw [← e2]; simp)
  show ∃ S, (if n = 0 then _ else _) = some S ∧ _
  rw [if_neg hn]
  refine ⟨_, rfl, ?_⟩
  by_cases hm : m = 0
  · subst hm
    have q0 : q * d = 0 := cancel2 (-i).toNat (by rw [← e1]; simp)
    have q1 : q = 0 := by rcases Int.mul_eq_zero.1 q0 with h | h; exact h; exact absurd h hd
    subst q1
    generalize i - j - ((54 + n.log2 - Nat.log2 0 : Nat) : Int) - 1 = p
    refine rep_of p.toNat (-p).toNat (by omega) ?_
    simp
  have hq0 : q ≠ 0 := by
    intro h0
    subst h0
    rw [Int.zero_mul, Int.zero_mul] at e1
    have := p2 i.toNat
    rcases Int.mul_eq_zero.1 e1 with h | h
    · rcases Int.mul_eq_zero.1 h with h | h
      · cases s <;> exact absurd h (by decide)
      · omega
    · omega
  -- one relation for the two
  have key : ∀ a b : Nat, (a : Int) = b + (i - j) → sg s * m * 2 ^ a = q * (sg t * n) * 2 ^ b := by
    intro a b hab
    apply cancel2 ((i.toNat + (-j).toNat))
    calc sg s * m * 2 ^ a * 2 ^ (i.toNat + (-j).toNat) = (sg s * m * 2 ^ i.toNat) * (2 ^ a * 2 ^ (-j).toNat) := by rw [Int.pow_add]; ac_rfl
      _ = q * (d * 2 ^ (-j).toNat) * (2 ^ (-i).toNat * 2 ^ a) := by rw [e1]; ac_rfl
      _ = q * (sg t * n * 2 ^ j.toNat) * (2 ^ (-i).toNat * 2 ^ a) := by rw [e2]
      _ = q * (sg t * n) * (2 ^ ((-i).toNat + a + j.toNat)) := by rw [Int.pow_add, Int.pow_add]; ac_rfl
      _ = q * (sg t * n) * (2 ^ (b + (i.toNat + (-j).toNat))) := by rw [show (-i).toNat + a + j.toNat = b + (i.toNat + (-j).toNat) by omega]
      _ = q * (sg t * n) * 2 ^ b * 2 ^ (i.toNat + (-j).toNat) := by rw [Int.pow_add]; ac_rfl
  have keyN : ∀ a b : Nat, (a : Int) = b + (i - j) → m * 2 ^ a = q.natAbs * n * 2 ^ b := by
    intro a b hab
    have e := congrArg Int.natAbs (key a b hab)
    rw [Int.natAbs_mul, Int.natAbs_mul, Int.natAbs_mul, Int.natAbs_mul, Int.natAbs_mul, show (sg s).natAbs = 1 by cases s <;> rfl, show (sg t).natAbs = 1 by cases t <;> rfl, Nat.one_mul, Nat.one_mul, Int.natAbs_natCast, Int.natAbs_natCast, Int.natAbs_pow, Int.natAbs_pow] at e
    exact e
  have hqa : q.natAbs ≠ 0 := by omega
  have hl : (m.log2 : Int) + (i - j).toNat ≤ q.natAbs.log2 + n.log2 + 1 + (-(i - j)).toNat := by
    have e := congrArg Nat.log2 (keyN (i - j).toNat (-(i - j)).toNat (by omega))
    rw [log2_mul2 hm, log2_mul2 (Nat.mul_ne_zero hqa hn)] at e
    have h1 : q.natAbs * n < 2 ^ (q.natAbs.log2 + 1 + (n.log2 + 1)) := by
      rw [Nat.pow_add]
      exact Nat.mul_lt_mul'' Nat.lt_log2_self Nat.lt_log2_self
    have h2 : (q.natAbs * n).log2 < q.natAbs.log2 + 1 + (n.log2 + 1) := (Nat.log2_lt (Nat.mul_ne_zero hqa hn)).2 h1
    omega
  have hlq : q.natAbs.log2 < 53 := (Nat.log2_lt hqa).2 hq
  have hdig : ∃ c : Nat, ((54 + n.log2 - m.log2 : Nat) : Int) = c + (i - j) := ⟨(((54 + n.log2 - m.log2 : Nat) : Int) - (i - j)).toNat, by omega⟩
  obtain ⟨c, hc⟩ := hdig
  have hdiv : m <<< (54 + n.log2 - m.log2) = (q.natAbs * 2 ^ c) * n := by
    rw [Nat.shiftLeft_eq, keyN _ c hc]; ac_rfl
  rw [hdiv, Nat.mul_div_cancel _ (Nat.pos_of_ne_zero hn), Nat.mul_mod_left]
  refine rep_of 0 (c + 1) (by omega) ?_
  have hsg : sg (s ^^ t) * q.natAbs = q := by
    have e := key _ c hc
    have e3 : (m : Int) * 2 ^ (54 + n.log2 - m.log2) = q.natAbs * n * 2 ^ c := by
      have := congrArg (fun z : Nat => (z : Int)) (keyN _ c hc)
      simpa [Int.natCast_mul, Int.natCast_pow] using this
    rw [Int.mul_assoc, e3] at e
    have hn' : (n : Int) * 2 ^ c ≠ 0 := Int.mul_ne_zero (by omega) (Int.ne_of_gt (p2 c))
    have e4 : sg s * q.natAbs = q * sg t := by
      apply Int.eq_of_mul_eq_mul_right hn'
      calc sg s * q.natAbs * (n * 2 ^ c) = sg s * (q.natAbs * n * 2 ^ c) := by ac_rfl
        _ = q * (sg t * n) * 2 ^ c := e
        _ = q * sg t * (n * 2 ^ c) := by ac_rfl
    rw [sg_xor]
    calc sg s * sg t * q.natAbs = (sg s * q.natAbs) * sg t := by ac_rfl
      _ = q * (sg t * sg t) := by rw [e4]; ac_rfl
      _ = q := by rw [sg_sq, Int.mul_one]
  have e5 : ((2 * (q.natAbs * 2 ^ c) + (0 != 0).toNat : Nat) : Int) = q.natAbs * 2 ^ (c + 1) := by
    rw [show ((0 : Nat) != 0).toNat = 0 from rfl, Nat.add_zero, Int.natCast_mul, Int.natCast_mul, Int.natCast_pow, Int.pow_succ]
    show (2 : Int) * ((q.natAbs : Int) * 2 ^ c) = q.natAbs * (2 ^ c * 2)
    ac_rfl
  rw [e5, Int.pow_zero, Int.mul_one, ← Int.mul_assoc, hsg]
theorem z_quo {x y : Fl} {q d : Int} (hx : Z x (q * d)) (hy : Z y d) (hd : d ≠ 0) (h : q.natAbs < 2 ^ 53) : Z (fop .quo .f64 x y) q := by
  obtain ⟨a, rfl, ha⟩ := hx
  obtain ⟨b, rfl, hb⟩ := hy
  obtain ⟨S, e, hS⟩ := rep_quotient ha hb hd h
  exact z_op (g := Ieee.Format.div) (fun _ _ => rfl) (by unfold Ieee.Format.div; rw [show Ieee.double.fractionBits + 2 = 54 from rfl, e]; rfl) hS h
theorem read_neg (b : Nat) : Ieee.double.read (b ^^^ 2 ^ 63) = (Ieee.double.read b).opposite := by
  have hw : Ieee.double.signWeight = 2 ^ 63 := rfl
  have h1 : (b ^^^ 2 ^ 63) % 2 ^ 63 = b % 2 ^ 63 := by
    rw [Nat.xor_mod_two_pow, Nat.mod_self, Nat.xor_zero]
  have h2 : ((b ^^^ 2 ^ 63) / 2 ^ 63 % 2 == 1) = !(b / 2 ^ 63 % 2 == 1) := by
    have h3 : (b ^^^ 2 ^ 63) / 2 ^ 63 = (b / 2 ^ 63) ^^^ 1 := by
      rw [Nat.xor_div_two_pow]
    have h4 : ((b / 2 ^ 63) ^^^ 1) % 2 ^ 1 = (b / 2 ^ 63 % 2 ^ 1) ^^^ (1 % 2 ^ 1) := Nat.xor_mod_two_pow
    rw [h3, show (((b / 2 ^ 63) ^^^ 1) % 2) = (b / 2 ^ 63 % 2) ^^^ 1 from h4]
    have : b / 2 ^ 63 % 2 = 0 ∨ b / 2 ^ 63 % 2 = 1 := by omega
    rcases this with h | h <;> rw [h] <;> rfl
  unfold Ieee.Format.read
  simp only [hw, h1, h2]
  split
  · rfl
  · split
    · rfl
    · split <;> rfl
theorem z_neg {x : Fl} {n : Int} (hx : Z x n) : Z (fneg .f64 x) (-n) := by
  obtain ⟨b, rfl, hb⟩ := hx
  have h : Rep (Ieee.double.read (b ^^^ 2 ^ 63)) (-n) := by rw [read_neg]; exact rep_opp hb
  exact ⟨b ^^^ 2 ^ 63, cn_not (k := .f64) (rep_nan h), h⟩

theorem rdf_n (l : List Fl) (n : Nat) : rdf .f64 l (n : Int) = l.getD n (cn .f64 0) := by
  unfold rdf
  rw [Int.toNat_natCast]

theorem at_ev {l : List Int} (h : ∀ x ∈ l, 0 ≤ x ∧ x ≤ 255) (hl : l.length ≤ 1048576) (i : Int) (h0 : 0 ≤ i) (h1 : i ≤ 1000000) : ∃ v, laws_at.f l i = some v ∧ 0 ≤ v ∧ v ≤ 255 := by
  unfold laws_at.f
  by_cases hi : i < (l.length : Int)
  · rw [if_pos hi, if_pos h0]
    have := u8_bounds h i.toNat
    refine ⟨_, rfl, ?_⟩
    unfold rd
    rw [w64 (by omega) (by omega)]
    exact this
  · rw [if_neg hi]
    refine ⟨_, rfl, ?_⟩
    rw [w64 (x := i * 7) (by omega) (by omega), w64 (by omega) (by omega), Int.tmod_eq_emod_of_nonneg (by omega)]
    omega

theorem big_ev {l : List Int} (h : l.length ≤ 1048576) : laws_big.f l = some false := by
  unfold laws_big.f
  rw [decide_eq_false (by omega)]
theorem big_big {l : List Int} (h : ¬ l.length ≤ 1048576) : laws_big.f l = some true := by
  unfold laws_big.f
  rw [decide_eq_true (by omega)]

theorem z_gtr {x y : Fl} {m n : Int} (hx : Z x m) (hy : Z y n) : fcmp .gtr .f64 x y = decide (n < m) := by
  unfold fcmp; simp only [z_ord hx hy, cmpI]
  by_cases h1 : m < n
  · rw [if_pos h1, decide_eq_false (by omega)]; rfl
  · by_cases h2 : m = n
    · rw [if_neg h1, if_pos h2, decide_eq_false (by omega)]; rfl
    · rw [if_neg h1, if_neg h2, decide_eq_true (by omega)]; rfl
theorem z_five : Z (cn .f64 4617315517961601024) 5 := z_const ⟨false, 5629499534213120, -50, 0, 50, rfl, by decide, by decide⟩
theorem z_two : Z (cn .f64 4611686018427387904) 2 := z_const ⟨false, 4503599627370496, -51, 0, 51, rfl, by decide, by decide⟩
theorem nan_ne : fcmp .neq .f64 (none : Fl) none = true := rfl
theorem nan_eq : fcmp .eql .f64 (none : Fl) none = false := rfl
theorem cn_nan : cn .f64 9221120237041090561 = (none : Fl) := by kernel_rfl
theorem zero_zero : fop .quo .f64 (cn .f64 0) (cn .f64 0) = (none : Fl) := by kernel_rfl
/-- the list that is drawn: X where there is a number, none where it is missing -/
def ls (X : Fl) (bs : List Bool) : List Fl := bs.map fun b => if b then X else none
theorem ls_len (X : Fl) (bs : List Bool) : (ls X bs).length = bs.length := List.length_map _
theorem ls_at (X : Fl) (bs : List Bool) {n : Nat} (h : n < bs.length) : (ls X bs).getD n (cn .f64 0) = if bs.getD n false then X else none := by
  unfold ls
  rw [List.getD_eq_getElem?_getD, List.getElem?_map, List.getElem?_eq_getElem h, List.getD_eq_getElem?_getD, List.getElem?_eq_getElem h]
  rfl
def cnt (bs : List Bool) : Nat := bs.countP fun b => b
theorem cnt_cons (b : Bool) (bs : List Bool) : cnt (b :: bs) = (if b then 1 else 0) + cnt bs := by
  cases b <;> simp [cnt, Nat.add_comm]
theorem cnt_drop {bs : List Bool} {n : Nat} (h : n < bs.length) : cnt (bs.drop n) = (if bs.getD n false then 1 else 0) + cnt (bs.drop (n + 1)) := by
  rw [List.drop_eq_getElem_cons h, cnt_cons, List.getD_eq_getElem?_getD, List.getElem?_eq_getElem h]
  rfl
theorem x_ne {X : Fl} {v : Int} (hX : Z X v) : fcmp .neq .f64 X X = false := by rw [z_neq hX hX]; simp
theorem x_eq {X : Fl} {v : Int} (hX : Z X v) : fcmp .eql .f64 X X = true := by rw [z_eql hX hX]; simp
theorem mean_loop {X : Fl} {v : Int} (hX : Z X v) (hv : -200 ≤ v ∧ v ≤ 200) (bs : List Bool) (hl : bs.length ≤ 20) : ∀ (d n : Nat) (s : Fl) (c : Nat), n + d = bs.length → c ≤ n → Z s (v * c) → ∃ r : Fl, Ev (fun k => impl_MeanOf.l0 k (ls X bs) s (c : Int) (ls X bs) ((ls X bs).length : Int) (n : Int)) (r, (if c + cnt (bs.drop n) = 0 then 0 else ((c + cnt (bs.drop n) : Nat) : Int)), decide (0 < c + cnt (bs.drop n))) ∧ (0 < c + cnt (bs.drop n) → Z r v) := by
  intro d
  induction d with
  | zero =>
    intro n s c hn hc hs
    rw [List.drop_of_length_le (by omega)]
    have e0 : cnt [] = 0 := rfl
    rw [e0, Nat.add_zero]
    by_cases h : c = 0
    · subst h
      refine ⟨cn .f64 0, ev_succ ?_, fun h => absurd h (by omega)⟩
      simp only [impl_MeanOf.l0, ls_len]
      exact ev_neg (by omega) (ev_pos (by omega) (Ev.now _))
    · refine ⟨fop .quo .f64 s (fint .f64 (c : Int)), ev_succ ?_, fun _ => z_quo hs (z_fint (by omega)) (by omega) (by omega)⟩
      simp only [impl_MeanOf.l0, ls_len]
      rw [if_neg h, decide_eq_true (by omega)]
      exact ev_neg (by omega) (ev_neg (by omega) (ev_neg (by omega) (Ev.now _)))
  | succ d ih =>
    intro n s c hn hc hs
    have hlt : n < bs.length := by omega
    have hw := w64_succ (n := n) (m := bs.length) (by omega) (by omega)
    have ha := ls_at X bs hlt
    have hd := cnt_drop hlt
    cases hb : bs.getD n false with
    | true =>
      rw [hb] at ha hd
      simp only [if_true] at ha hd
      have e1 : v * ((c + 1 : Nat) : Int) = v * c + v := by rw [Int.natCast_add, Int.mul_add]; simp
      have mb : (v * c + v).natAbs < 2 ^ 53 := by
        have h1 : (v * (c : Int)).natAbs ≤ 200 * 20 := by rw [Int.natAbs_mul]; exact Nat.mul_le_mul (by omega) (by omega)
        have h2 : (2 : Nat) ^ 53 = 9007199254740992 := by decide
        omega
      have hs' : Z (fop .add .f64 s X) (v * ((c + 1 : Nat) : Int)) := by rw [e1]; exact z_add hs hX mb
      obtain ⟨r, h1, h2⟩ := ih (n + 1) (fop .add .f64 s X) (c + 1) (by omega) (by omega) hs'
      have ec : c + 1 + cnt (bs.drop (n + 1)) = c + cnt (bs.drop n) := by omega
      rw [ec] at h1 h2
      refine ⟨r, ev_succ ?_, h2⟩
      have wc : wrap64 ((c : Int) + 1) = ((c + 1 : Nat) : Int) := by rw [w64 (by omega) (by omega)]; omega
      simp only [impl_MeanOf.l0, math_IsNaN.f, Option.bind_some, rdf_n, ha, x_ne hX, hw, ls_len, wc]
      simp only [ls_len] at h1
      exact ev_pos (by omega) (ev_pos (by omega) (ev_pos (by omega) (ev_neg (by decide) h1)))
    | false =>
      rw [hb] at ha hd
      simp only [Bool.false_eq_true, if_false] at ha hd
      obtain ⟨r, h1, h2⟩ := ih (n + 1) s c (by omega) (by omega) hs
      have ec : c + cnt (bs.drop (n + 1)) = c + cnt (bs.drop n) := by omega
      rw [ec] at h1 h2
      refine ⟨r, ev_succ ?_, h2⟩
      simp only [impl_MeanOf.l0, math_IsNaN.f, Option.bind_some, rdf_n, ha, nan_ne, hw, ls_len]
      simp only [ls_len] at h1
      exact ev_pos (by omega) (ev_pos (by omega) (ev_pos (by omega) (ev_pos (by trivial) h1)))
theorem mean_ev {X : Fl} {v : Int} (hX : Z X v) (hv : -200 ≤ v ∧ v ≤ 200) (bs : List Bool) (hl : bs.length ≤ 20) : ∃ r : Fl, Ev (fun k => impl_MeanOf.f k (ls X bs)) (r, (cnt bs : Int), decide (0 < cnt bs)) ∧ (0 < cnt bs → Z r v) := by
  obtain ⟨r, h1, h2⟩ := mean_loop hX hv bs hl bs.length 0 (cn .f64 0) 0 (by omega) (by omega) (by simpa using z_zero)
  simp only [List.drop_zero, Nat.zero_add] at h1 h2
  have e : (if cnt bs = 0 then (0 : Int) else (cnt bs : Int)) = (cnt bs : Int) := by split <;> omega
  rw [e] at h1
  exact ⟨r, by unfold impl_MeanOf.f; exact h1, h2⟩
/-- which have been seen when the first n have been -/
def seen (bs : List Bool) (n : Nat) : Bool := (bs.take n).any fun b => b
theorem seen_succ {bs : List Bool} {n : Nat} (h : n < bs.length) : seen bs (n + 1) = (seen bs n || bs.getD n false) := by
  unfold seen
  rw [List.take_succ_eq_append_getElem h, List.any_append, List.getD_eq_getElem?_getD, List.getElem?_eq_getElem h]
  simp
theorem first_ev {X : Fl} {v : Int} (hX : Z X v) (bs : List Bool) (hl : bs.length ≤ 20) : ∀ (d n : Nat), n + d = bs.length → seen bs n = false → ∃ r : Int, Ev (fun k => slices_IndexFunc_float64_float64.l0 k (ls X bs) ((ls X bs).length : Int) (n : Int)) r ∧ ((r = -1 ∧ seen bs bs.length = false) ∨ ∃ j : Nat, r = (j : Int) ∧ j < bs.length ∧ bs.getD j false = true) := by
  intro d
  induction d with
  | zero =>
    intro n hn hs
    refine ⟨-1, ev_succ ?_, .inl ⟨rfl, by rw [show bs.length = n by omega]; exact hs⟩⟩
    simp only [slices_IndexFunc_float64_float64.l0, ls_len]
    exact ev_neg (by omega) (Ev.now _)
  | succ d ih =>
    intro n hn hs
    have hlt : n < bs.length := by omega
    have hw := w64_succ (n := n) (m := bs.length) (by omega) (by omega)
    have ha := ls_at X bs hlt
    cases hb : bs.getD n false with
    | true =>
      rw [hb] at ha
      simp only [if_true] at ha
      refine ⟨(n : Int), ev_succ ?_, .inr ⟨n, rfl, hlt, hb⟩⟩
      simp only [slices_IndexFunc_float64_float64.l0, impl_Smooth_1.f, math_IsNaN.f, Option.bind_some, rdf_n, ha, x_ne hX, ls_len]
      exact ev_pos (by omega) (ev_pos (by omega) (ev_pos (by omega) (ev_pos (by trivial) (Ev.now _))))
    | false =>
      rw [hb] at ha
      simp only [Bool.false_eq_true, if_false] at ha
      obtain ⟨r, h1, h2⟩ := ih (n + 1) (by omega) (by rw [seen_succ hlt, hs, hb]; rfl)
      refine ⟨r, ev_succ ?_, h2⟩
      simp only [slices_IndexFunc_float64_float64.l0, impl_Smooth_1.f, math_IsNaN.f, Option.bind_some, rdf_n, ha, nan_ne, ls_len, hw]
      simp only [ls_len] at h1
      exact ev_pos (by omega) (ev_pos (by omega) (ev_pos (by omega) (ev_neg (by decide) h1)))
/-- what the smoothed list says at each place -/
def Says (v : Int) (bs : List Bool) (o : List Fl) : Prop := ∀ j : Nat, j < o.length → (seen bs (j + 1) = true → Z (o.getD j (cn .f64 0)) v) ∧ (seen bs (j + 1) = false → o.getD j (cn .f64 0) = none)
theorem says_snoc {v : Int} {bs : List Bool} {o : List Fl} {e : Fl} (h : Says v bs o) (h1 : seen bs (o.length + 1) = true → Z e v) (h2 : seen bs (o.length + 1) = false → e = none) : Says v bs (o ++ [e]) := by
  intro j hj
  rw [List.length_append, List.length_singleton] at hj
  rw [List.getD_eq_getElem?_getD]
  by_cases c : j < o.length
  · rw [List.getElem?_append_left c, ← List.getD_eq_getElem?_getD]
    exact h j c
  · obtain rfl : j = o.length := by omega
    rw [List.getElem?_append_right (by omega)]
    simpa using ⟨h1, h2⟩
theorem smooth_loop {X : Fl} {v : Int} (hX : Z X v) (hv : -200 ≤ v ∧ v ≤ 200) (bs : List Bool) (hl : bs.length ≤ 20) : ∀ (d n : Nat) (a : Fl) (o : List Fl), n + d = bs.length → o.length = n → (seen bs bs.length = true → Z a v) → Says v bs o → ∃ R : List Fl, Ev (fun k => impl_Smooth.l0 k (cn .f64 4607182418800017408) a o (seen bs n) (ls X bs) ((ls X bs).length : Int) (n : Int)) (R, true) ∧ R.length = bs.length ∧ Says v bs R := by
  intro d
  induction d with
  | zero =>
    intro n a o hn ho ha hs
    refine ⟨o, ev_succ ?_, by omega, hs⟩
    simp only [impl_Smooth.l0, ls_len]
    exact ev_neg (by omega) (Ev.now _)
  | succ d ih =>
    intro n a o hn ho ha hs
    have hlt : n < bs.length := by omega
    have hw := w64_succ (n := n) (m := bs.length) (by omega) (by omega)
    have hA := ls_at X bs hlt
    have ss := seen_succ hlt
    have up : seen bs (n + 1) = true → seen bs bs.length = true := by
      intro h
      unfold seen at h ⊢
      rw [List.any_eq_true] at h ⊢
      obtain ⟨b, h1, h2⟩ := h
      exact ⟨b, by rw [List.take_of_length_le (Nat.le_refl _)]; exact List.mem_of_mem_take h1, h2⟩
    have hlo : o.length < 17592186044416 := Nat.lt_trans (show o.length < 20 by omega) (by decide)
    cases hb : bs.getD n false with
    | true =>
      rw [hb] at hA ss
      simp only [if_true, Bool.or_true] at hA ss
      have za := ha (up ss)
      have e0 : Z (fop .sub .f64 X a) 0 := by have := z_sub hX za (by simp); rwa [Int.sub_self] at this
      have e1 : Z (fop .mul .f64 (fop .sub .f64 X a) (cn .f64 4607182418800017408)) 0 := by have := z_mul e0 z_one (by simp); rwa [Int.zero_mul] at this
      have e2 : Z (fop .add .f64 a (fop .mul .f64 (fop .sub .f64 X a) (cn .f64 4607182418800017408))) v := by
        have := z_add za e1 (by rw [Int.add_zero]; have h2 : (2 : Nat) ^ 53 = 9007199254740992 := by decide
                                omega)
        rwa [Int.add_zero] at this
      obtain ⟨R, h1, h2, h3⟩ := ih (n + 1) _ (o ++ [fop .add .f64 a (fop .mul .f64 (fop .sub .f64 X a) (cn .f64 4607182418800017408))]) (by omega) (by simp; omega) (fun _ => e2) (says_snoc hs (fun _ => e2) (by rw [ho, ss]; simp))
      rw [ss] at h1
      refine ⟨R, ev_succ ?_, h2, h3⟩
      simp only [impl_Smooth.l0, math_IsNaN.f, Option.bind_some, rdf_n, hA, x_ne hX, ls_len]
      refine ev_pos (by omega) (ev_pos (by omega) (ev_pos (by omega) (ev_neg (by decide) (ev_succ ?_))))
      simp only [impl_Smooth.j2, hw]
      simp only [ls_len] at h1
      exact ev_pos (by trivial) (ev_pos hlo h1)
    | false =>
      rw [hb] at hA ss
      simp only [Bool.false_eq_true, if_false, Bool.or_false] at hA ss
      cases hsn : seen bs n with
      | true =>
        rw [hsn] at ss
        have za := ha (up ss)
        obtain ⟨R, h1, h2, h3⟩ := ih (n + 1) a (o ++ [a]) (by omega) (by simp; omega) ha (says_snoc hs (fun _ => za) (by rw [ho, ss]; simp))
        rw [ss] at h1
        refine ⟨R, ev_succ ?_, h2, h3⟩
        simp only [impl_Smooth.l0, math_IsNaN.f, Option.bind_some, rdf_n, hA, nan_ne, ls_len]
        refine ev_pos (by omega) (ev_pos (by omega) (ev_pos (by omega) (ev_pos (by trivial) (ev_succ ?_))))
        simp only [impl_Smooth.j2, hw]
        simp only [ls_len] at h1
        exact ev_pos (by trivial) (ev_pos hlo h1)
      | false =>
        rw [hsn] at ss
        obtain ⟨R, h1, h2, h3⟩ := ih (n + 1) a (o ++ [none]) (by omega) (by simp; omega) ha (says_snoc hs (by rw [ho, ss]; simp) (fun _ => rfl))
        rw [ss] at h1
        refine ⟨R, ev_succ ?_, h2, h3⟩
        simp only [impl_Smooth.l0, math_IsNaN.f, Option.bind_some, rdf_n, hA, nan_ne, ls_len]
        refine ev_pos (by omega) (ev_pos (by omega) (ev_pos (by omega) (ev_pos (by trivial) (ev_succ ?_))))
        simp only [impl_Smooth.j2, math_NaN.f, cn_nan, Option.bind_some, hw]
        simp only [ls_len] at h1
        exact ev_neg (by decide) (ev_pos hlo h1)
theorem smooth_ev {X : Fl} {v : Int} (hX : Z X v) (hv : -200 ≤ v ∧ v ≤ 200) (bs : List Bool) (hl : bs.length ≤ 20) : ∃ R : List Fl, Ev (fun k => impl_Smooth.f k (ls X bs) (cn .f64 4607182418800017408)) (R, true) ∧ R.length = bs.length ∧ Says v bs R := by
  obtain ⟨r, f1, f2⟩ := first_ev hX bs hl bs.length 0 (by omega) rfl
  have f1' : Ev (fun k => slices_IndexFunc_float64_float64.f k (ls X bs) ()) r := f1
  unfold impl_Smooth.f
  simp only [math_NaN.f, Option.bind_some, ls_len]
  have h0 : Says v bs [] := fun j hj => absurd hj (by simp)
  rcases f2 with ⟨rfl, hno⟩ | ⟨j, rfl, hj, hb⟩
  · obtain ⟨R, h1, h2, h3⟩ := smooth_loop hX hv bs hl bs.length 0 (cn .f64 9221120237041090561) [] (by omega) rfl (fun h => by rw [hno] at h; cases h) h0
    refine ⟨R, ev_neg (by omega) (Ev.bind f1' (ev_neg (by omega) (ev_succ ?_))), h2, h3⟩
    simp only [impl_Smooth.j0]
    exact h1
  · have hA := ls_at X bs hj
    rw [hb] at hA
    simp only [if_true] at hA
    obtain ⟨R, h1, h2, h3⟩ := smooth_loop hX hv bs hl bs.length 0 X [] (by omega) rfl (fun _ => hX) h0
    refine ⟨R, ev_neg (by omega) (Ev.bind f1' (ev_pos (by omega) (ev_pos (by omega) (ev_pos (by omega) ?_)))), h2, h3⟩
    rw [rdf_n, hA]
    refine ev_succ ?_
    simp only [impl_Smooth.j0]
    exact h1
/-- the first that is over -/
theorem over_ev : Ev (fun k => impl_FirstOver.f k [(⟨cn .f64 4607182418800017408, cn .f64 0, cn .f64 0, cn .f64 0⟩ : S60), ⟨cn .f64 4617315517961601024, cn .f64 0, cn .f64 0, cn .f64 0⟩] (cn .f64 4611686018427387904)) 1 := by
  unfold impl_FirstOver.f
  have l2 : (([(⟨cn .f64 4607182418800017408, cn .f64 0, cn .f64 0, cn .f64 0⟩ : S60), ⟨cn .f64 4617315517961601024, cn .f64 0, cn .f64 0, cn .f64 0⟩] : List S60).length : Int) = 2 := rfl
  have g0 : fcmp .gtr .f64 (cn .f64 4607182418800017408) (cn .f64 4611686018427387904) = false := by rw [z_gtr z_one z_two]; decide
  have g1 : fcmp .gtr .f64 (cn .f64 4617315517961601024) (cn .f64 4611686018427387904) = true := by rw [z_gtr z_five z_two]; decide
  have w1 : wrap64 ((0 : Int) + 1) = 1 := by rw [w64 (by omega) (by omega)]; rfl
  refine ev_succ ?_
  simp only [impl_FirstOver.l0, l2, w1]
  refine ev_pos (by decide) (ev_pos (by decide) (ev_neg ?_ (ev_succ ?_)))
  · show ¬ fcmp .gtr .f64 (cn .f64 4607182418800017408) (cn .f64 4611686018427387904) = true
    rw [g0]; decide
  simp only [impl_FirstOver.l0, l2]
  exact ev_pos (by decide) (ev_pos (by decide) (ev_pos g1 (Ev.now _)))
theorem check_loop {X : Fl} {v : Int} (hX : Z X v) (bs : List Bool) (hl : bs.length ≤ 20) (m : Fl) (ok : Bool) (hm : ok = true → Z m v) (R : List Fl) (hR : R.length = bs.length) (hs : Says v bs R) : ∀ (d n : Nat), n + d = bs.length → Ev (fun k => laws_FnMeans.l1 k X (ls X bs) m ok R (seen bs n) (n : Int)) true := by
  intro d
  induction d with
  | zero =>
    intro n hn
    have fin : Ev (fun k => laws_FnMeans.j6 k true) true := by
      refine ev_succ ?_
      simp only [laws_FnMeans.j6]
      exact Ev.now _
    refine ev_succ ?_
    simp only [laws_FnMeans.l1, ls_len]
    refine ev_neg (by omega) (Ev.bind over_ev ?_)
    cases ok with
    | true => exact ev_pos (by trivial) (ev_pos (by rw [z_eql (hm rfl) hX]; simp) fin)
    | false => exact ev_neg (by decide) fin
  | succ d ih =>
    intro n hn
    have hlt : n < bs.length := by omega
    have hw := w64_succ (n := n) (m := bs.length) (by omega) (by omega)
    have hA := ls_at X bs hlt
    have ss := seen_succ hlt
    obtain ⟨s1, s2⟩ := hs n (by omega)
    have ih' := ih (n + 1) (by omega)
    have last : ∀ b : Bool, b = false → Ev (fun k => laws_FnMeans.j5 k X (ls X bs) m ok R (seen bs (n + 1)) (n : Int) b) true := by
      rintro b rfl
      refine ev_succ ?_
      simp only [laws_FnMeans.j5, hw]
      exact ev_neg (by decide) ih'
    have mid : Ev (fun k => laws_FnMeans.j4 k X (ls X bs) m ok R (seen bs (n + 1)) (n : Int)) true := by
      refine ev_succ ?_
      simp only [laws_FnMeans.j4, rdf_n, Option.bind_some]
      cases h : seen bs (n + 1) with
      | true =>
        rw [h] at last
        exact ev_pos (by trivial) (ev_pos (by omega) (ev_pos (by omega) (ev_neg (by rw [z_neq (s1 h) hX]; simp) (last false rfl))))
      | false =>
        rw [h] at last
        rw [s2 h, nan_eq]
        exact ev_neg (by decide) (ev_pos (by omega) (ev_pos (by omega) (last false rfl)))
    refine ev_succ ?_
    simp only [laws_FnMeans.l1, ls_len, rdf_n, Option.bind_some]
    refine ev_pos (by omega) ?_
    cases hsn : seen bs n with
    | true =>
      rw [ss, hsn, Bool.true_or] at mid
      exact ev_pos (by trivial) mid
    | false =>
      rw [ss, hsn, Bool.false_or] at mid
      refine ev_neg (by decide) (ev_pos (by omega) ?_)
      rw [hA]
      cases hb : bs.getD n false with
      | true =>
        rw [hb] at mid
        simp only [if_true, x_eq hX]
        exact mid
      | false =>
        rw [hb] at mid
        simp only [Bool.false_eq_true, if_false, nan_eq]
        exact mid
theorem ls_snoc (X : Fl) (bs : List Bool) (b : Bool) : ls X bs ++ [if b then X else none] = ls X (bs ++ [b]) := by simp [ls]
theorem cnt_snoc (bs : List Bool) (b : Bool) : cnt (bs ++ [b]) = cnt bs + if b then 1 else 0 := by
  unfold cnt
  rw [List.countP_append]
  cases b <;> rfl
theorem cnt_le (bs : List Bool) : cnt bs ≤ bs.length := List.countP_le_length
theorem w_nat2 {n : Nat} (h : n ≤ 1000) : wrap64 ((n : Int) + 2) = (n : Int) + 2 := w64 (by omega) (by omega)
theorem w_nat1 {n : Nat} (h : n ≤ 1000) : wrap64 ((n : Int) + 1) = ((n + 1 : Nat) : Int) := by rw [w64 (by omega) (by omega)]; omega
theorem FnMeans : laws_FnMeans.PureR := by
  intro l ⟨_, hu⟩
  refine Ev.rounds ?_
  unfold laws_FnMeans.f
  by_cases hL : l.length ≤ 1048576
  rotate_left
  · rw [big_big hL]
    exact Ev.now _
  rw [big_ev hL]
  simp only [Option.bind_some]
  refine ev_neg (by decide) ?_
  obtain ⟨v0, e0, b0, b1⟩ := at_ev hu hL 0 (by omega) (by omega)
  obtain ⟨v1, e1, c0, c1⟩ := at_ev hu hL 1 (by omega) (by omega)
  rw [e0]
  simp only [Option.bind_some]
  have wv : wrap64 (v0 - 128) = v0 - 128 := w64 (by omega) (by omega)
  rw [wv]
  have hX : Z (fint .f64 (v0 - 128)) (v0 - 128) := z_fint (by have h2 : (2 : Nat) ^ 53 = 9007199254740992 := by decide
                                                              omega)
  have hv : -200 ≤ v0 - 128 ∧ v0 - 128 ≤ 200 := by omega
  generalize fint .f64 (v0 - 128) = X at hX
  have m20 : Int.tmod v1 20 = v1 % 20 := Int.tmod_eq_emod_of_nonneg c0
  have w20 : wrap64 (1 + Int.tmod v1 20) = 1 + v1 % 20 := by rw [m20]; exact w64 (by omega) (by omega)
  have loop : ∀ (d : Nat) (bs : List Bool), (bs.length : Int) + d = 1 + v1 % 20 → Ev (fun k => laws_FnMeans.l0 k l (cn .f64 0) X (ls X bs) (cnt bs : Int) (bs.length : Int)) true := by
    intro d
    induction d with
    | zero =>
      intro bs hn
      have hb20 : bs.length ≤ 20 := by omega
      obtain ⟨r, q1, q2⟩ := mean_ev hX hv bs hb20
      obtain ⟨R, q3, q4, q5⟩ := smooth_ev hX hv bs hb20
      refine ev_succ ?_
      simp only [laws_FnMeans.l0, e1, w20, Option.bind_some]
      refine ev_neg (by omega) (Ev.bind q1 (Ev.bind q3 (ev_pos (by trivial) (ev_pos (by rw [q4, ls_len]) (ev_neg ?_ (ev_succ ?_))))))
      · simp
      · simp only [laws_FnMeans.j2]
        refine ev_neg (by simp) ?_
        exact check_loop hX bs hb20 r _ (fun h => q2 (by simpa using h)) R q4 q5 bs.length 0 (by omega)
    | succ d ih =>
      intro bs hn
      have hb20 : bs.length < 20 := by omega
      obtain ⟨p, ep, p0, p1⟩ := at_ev hu hL ((bs.length : Int) + 2) (by omega) (by omega)
      have hb1 : bs.length ≤ 1000 := Nat.le_of_lt (Nat.lt_trans hb20 (by decide))
      have w2 := w_nat2 hb1
      have wn := w_nat1 hb1
      have hc := cnt_le bs
      have wc := w_nat1 (Nat.le_trans hc hb1)
      refine ev_succ ?_
      simp only [laws_FnMeans.l0, e1, w20, w2, ep, Option.bind_some]
      refine ev_pos (by omega) ?_
      have ihF := ih (bs ++ [false]) (by simp; omega)
      have ihT := ih (bs ++ [true]) (by simp; omega)
      have hlen : (ls X bs).length < 17592186044416 := by rw [ls_len]; exact Nat.lt_trans hb20 (by decide)
      by_cases h3 : Int.tmod p 3 = 0
      · have ih' := ihF
        refine ev_pos h3 (ev_pos hlen ?_)
        rw [zero_zero]
        have e := ls_snoc X bs false
        simp only [Bool.false_eq_true, if_false] at e
        rw [e]
        refine ev_succ ?_
        simp only [laws_FnMeans.j1, wn]
        rw [cnt_snoc, List.length_append] at ih'
        exact ih'
      · have ih' := ihT
        refine ev_neg h3 (ev_pos hlen ?_)
        have e := ls_snoc X bs true
        simp only [if_true] at e
        rw [e, wc]
        refine ev_succ ?_
        simp only [laws_FnMeans.j1, wn]
        rw [cnt_snoc, List.length_append] at ih'
        exact ih'
  exact loop (1 + v1 % 20).toNat [] (by simp; omega)

end Go.Proofs.Ytkginilghcepbaa.Pure
