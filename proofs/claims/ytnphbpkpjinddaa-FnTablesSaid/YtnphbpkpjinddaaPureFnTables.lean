/- Proved here: at each X of a drawn curve the value is the Y, between two it is between theirs, and Find tells the least place that suffices; no condition. -/
import Derived.Test.YtnphbpkpjinddaaPureDefFnTables
namespace Go.Proofs.Ytnphbpkpjinddaa.Pure
open Go.RowKit Go.Proofs.Ytnphbpkpjinddaa.QFnTables Go.Proofs.YtnphbpkpjinddaaW.PrintWords Go.Proofs.YtnphbpkpjinddaaW.PrintLast Go.Proofs.YtnphbpkpjinddaaW.PrintMore
set_option linter.unusedVariables false
set_option linter.unusedSimpArgs false

theorem ev_pos {c : Prop} [Decidable c] {α : Type} {A B : Nat → Option α} {r : α} (h : c) (k : Ev A r) : Ev (fun n => if c then A n else B n) r := by
  simpa only [if_pos h] using k
theorem ev_neg {c : Prop} [Decidable c] {α : Type} {A B : Nat → Option α} {r : α} (h : ¬ c) (k : Ev B r) : Ev (fun n => if c then A n else B n) r := by
  simpa only [if_neg h] using k
theorem ev_succ {α : Type} {g : Nat → Option α} {r : α} (h : Ev (fun k => g (k + 1)) r) : Ev g r := Ev.step (fun _ => rfl) h
theorem ex_succ {α : Type} {g : Nat → Option α} (h : ∃ r, Ev (fun k => g (k + 1)) r) : ∃ r, Ev g r := by
  obtain ⟨r, h⟩ := h
  exact ⟨r, ev_succ h⟩
theorem ev_one {α : Type} {g : Nat → Option α} {r q : α} (h : Ev g r) (h' : Ev g q) : r = q := by
  obtain ⟨K, hK⟩ := h
  obtain ⟨L, hL⟩ := h'
  have a := hK (max K L) (Nat.le_max_left _ _)
  have b := hL (max K L) (Nat.le_max_right _ _)
  exact Option.some.inj (a.symm.trans b)
theorem ev_bool {α : Type} {A B : Nat → Option α} {r : α} (b : Bool) (h1 : b = true → Ev A r) (h2 : b = false → Ev B r) : Ev (fun n => if b = true then A n else B n) r := by
  cases b with
  | true => exact ev_pos (by trivial) (h1 rfl)
  | false => exact ev_neg (by decide) (h2 rfl)
theorem bool_eq_of_iff {a b : Bool} {p : Prop} (h : a = true ↔ p) (h' : b = true ↔ p) : a = b := by
  rw [Bool.eq_iff_iff]
  exact h.trans h'.symm
theorem w64 {x : Int} (h0 : -9223372036854775808 ≤ x) (h1 : x ≤ 9223372036854775807) : wrap64 x = x := by
  unfold wrap64
  omega
theorem w64_succ {n m : Nat} (h : n < m) (hm : m ≤ 9223372036854775807) : wrap64 ((n : Int) + 1) = ((n + 1 : Nat) : Int) := by
  unfold wrap64
  omega
theorem rd_nat (l : List Int) (n : Nat) : rd l (n : Int) = l.getD n 0 := by
  unfold rd
  rw [Int.toNat_natCast]
theorem take_set_succ {α : Type} (d : α) {x0 x3 : List α} {n : Nat} (h : n < x0.length) (hl : x3.length = x0.length) (ht : x3.take n = x0.take n) : (x3.set n (x0.getD n d)).take (n + 1) = x0.take (n + 1) := by
  apply List.ext_getElem?
  intro i
  simp only [List.getElem?_take, List.getElem?_set]
  by_cases hi : i < n + 1
  · rw [if_pos hi, if_pos hi]
    by_cases he : n = i
    · subst he
      rw [if_pos rfl, if_pos (by omega), List.getD_eq_getElem?_getD, List.getElem?_eq_getElem h]
      rfl
    · rw [if_neg he]
      have := congrArg (fun l => l[i]?) ht
      simpa only [List.getElem?_take, if_pos (show i < n by omega)] using this
  · rw [if_neg hi, if_neg hi]
theorem u8_bounds {l : List Int} (h : ∀ x ∈ l, 0 ≤ x ∧ x ≤ 255) (n : Nat) : 0 ≤ l.getD n 0 ∧ l.getD n 0 ≤ 255 := by
  rw [List.getD_eq_getElem?_getD]
  cases e : l[n]? with
  | none => simp
  | some x =>
    exact h x (List.mem_of_getElem? e)
theorem getD_map {α β : Type} (c : α → β) (l : List α) (n : Nat) (d : α) : (l.map c).getD n (c d) = c (l.getD n d) := by
  simp only [List.getD_eq_getElem?_getD, List.getElem?_map]
  cases l[n]? <;> rfl
/-- It ends, with true just where p holds. -/
def EvB (g : Nat → Option Bool) (p : Prop) : Prop := ∃ b, Ev g b ∧ (b = true ↔ p)
theorem EvB.iff {g : Nat → Option Bool} {p q : Prop} (h : EvB g p) (h' : p ↔ q) : EvB g q := by
  obtain ⟨b, hb, ib⟩ := h
  exact ⟨b, hb, ib.trans h'⟩
theorem EvB.dec {c : Prop} [Decidable c] : EvB (fun _ => some (decide c)) c := ⟨decide c, Ev.now _, decide_eq_true_iff⟩
theorem EvB.ite {c : Prop} [Decidable c] {A : Nat → Option Bool} {p : Prop} (h : EvB A p) : EvB (fun n => if c then A n else some false) (c ∧ p) := by
  obtain ⟨b, hb, ib⟩ := h
  by_cases hc : c
  · exact ⟨b, ev_pos hc hb, ⟨fun h => ⟨hc, ib.1 h⟩, fun h => ib.2 h.2⟩⟩
  · exact ⟨false, ev_neg hc (Ev.now _), ⟨fun h => (Bool.false_ne_true h).elim, fun h => absurd h.1 hc⟩⟩
theorem EvB.ite_not {c : Prop} [Decidable c] {A : Nat → Option Bool} {p : Prop} (h : EvB A p) : EvB (fun n => if c then some false else A n) (¬ c ∧ p) := by
  obtain ⟨b, hb, ib⟩ := h
  by_cases hc : c
  · exact ⟨false, ev_pos hc (Ev.now _), ⟨fun h => (Bool.false_ne_true h).elim, fun h => absurd hc h.1⟩⟩
  · exact ⟨b, ev_neg hc hb, ⟨fun h => ⟨hc, ib.1 h⟩, fun h => ib.2 h.2⟩⟩
theorem EvB.bind {g A : Nat → Option Bool} {p q : Prop} (h : EvB g p) (h' : EvB A q) : EvB (fun n => (g n).bind fun t => if t = true then A n else some false) (p ∧ q) := by
  obtain ⟨b, hb, ib⟩ := h
  obtain ⟨c, hc, ic⟩ := h'
  cases b with
  | true => exact ⟨c, Ev.bind hb (ev_pos rfl hc), ⟨fun h => ⟨ib.1 rfl, ic.1 h⟩, fun h => ic.2 h.2⟩⟩
  | false => exact ⟨false, Ev.bind hb (ev_neg (by decide) (Ev.now _)), ⟨fun h => (Bool.false_ne_true h).elim, fun h => absurd (ib.2 h.1) (by decide)⟩⟩
theorem EvB.last {g : Nat → Option Bool} {p : Prop} (h : EvB g p) : EvB (fun n => (g n).bind fun t => some t) p := by
  obtain ⟨b, hb, ib⟩ := h
  exact ⟨b, Ev.bind hb (Ev.now _), ib⟩
theorem EvB.same {g g' : Nat → Option Bool} {p : Prop} (h : EvB g p) (h' : EvB g' p) : ∃ b, Ev g b ∧ Ev g' b ∧ (b = true ↔ p) := by
  obtain ⟨b, hb, ib⟩ := h
  obtain ⟨c, hc, ic⟩ := h'
  obtain rfl : c = b := bool_eq_of_iff ic ib
  exact ⟨c, hb, hc, ib⟩
theorem EvB.bindE {g A B : Nat → Option Bool} {p q : Prop} (hB : Ev B false) (h : EvB g p) (h' : EvB A q) : EvB (fun n => (g n).bind fun t => if t = true then A n else B n) (p ∧ q) := by
  obtain ⟨b, hb, ib⟩ := h
  obtain ⟨c, hc, ic⟩ := h'
  cases b with
  | true => exact ⟨c, Ev.bind hb (ev_pos rfl hc), ⟨fun h => ⟨ib.1 rfl, ic.1 h⟩, fun h => ic.2 h.2⟩⟩
  | false => exact ⟨false, Ev.bind hb (ev_neg (by decide) hB), ⟨fun h => (Bool.false_ne_true h).elim, fun h => absurd (ib.2 h.1) (by decide)⟩⟩
theorem EvB.iteE {c : Prop} [Decidable c] {A B : Nat → Option Bool} {p : Prop} (hB : Ev B false) (h : EvB A p) : EvB (fun n => if c then A n else B n) (c ∧ p) := by
  obtain ⟨b, hb, ib⟩ := h
  by_cases hc : c
  · exact ⟨b, ev_pos hc hb, ⟨fun h => ⟨hc, ib.1 h⟩, fun h => ib.2 h.2⟩⟩
  · exact ⟨false, ev_neg hc hB, ⟨fun h => (Bool.false_ne_true h).elim, fun h => absurd h.1 hc⟩⟩
theorem EvB.bindN {g : Nat → Option Bool} {J : Nat → Bool → Option Bool} {p q : Prop} (hB : Ev (fun n => J n true) false) (h : EvB g p) (h' : EvB (fun n => J n false) q) : EvB (fun n => (g n).bind fun t => J n (!t)) (p ∧ q) := by
  obtain ⟨b, hb, ib⟩ := h
  obtain ⟨c, hc, ic⟩ := h'
  cases b with
  | true => exact ⟨c, Ev.bind hb hc, ⟨fun h => ⟨ib.1 rfl, ic.1 h⟩, fun h => ic.2 h.2⟩⟩
  | false => exact ⟨false, Ev.bind hb hB, ⟨fun h => (Bool.false_ne_true h).elim, fun h => absurd (ib.2 h.1) (by decide)⟩⟩
theorem EvB.succ {g : Nat → Option Bool} {p : Prop} (h : EvB (fun k => g (k + 1)) p) : EvB g p := by
  obtain ⟨b, hb, ib⟩ := h
  exact ⟨b, ev_succ hb, ib⟩
theorem EvB.true_ {p : Prop} (h : p) : EvB (fun _ => some true) p := ⟨true, Ev.now _, ⟨fun _ => h, fun _ => rfl⟩⟩
theorem EvB.false_ {p : Prop} (h : ¬ p) : EvB (fun _ => some false) p := ⟨false, Ev.now _, ⟨fun e => (Bool.false_ne_true e).elim, fun e => absurd e h⟩⟩
theorem EvB.pos {c : Prop} [Decidable c] {A B : Nat → Option Bool} {p : Prop} (hc : c) (h : EvB A p) : EvB (fun n => if c then A n else B n) p := by
  simpa only [if_pos hc] using h
theorem EvB.neg {c : Prop} [Decidable c] {A B : Nat → Option Bool} {p : Prop} (hc : ¬ c) (h : EvB B p) : EvB (fun n => if c then A n else B n) p := by
  simpa only [if_neg hc] using h

theorem wrap_i64_eq (n : Int) : IntKind.i64.wrap n = wrap64 n := by
  rw [IntKind.wrap_i64, wrap64]
theorem and_255 (x : Int) : 0 ≤ Go.bits .and .i64 x 255 ∧ Go.bits .and .i64 x 255 ≤ 255 := by
  have h : (BitVec.ofInt 64 x &&& BitVec.ofInt 64 255).toNat ≤ 255 := by
    rw [BitVec.toNat_and]
    exact Nat.le_trans Nat.and_le_right (by decide)
  show 0 ≤ IntKind.i64.wrap ((BitVec.ofInt 64 x &&& BitVec.ofInt 64 255).toNat : Int) ∧ IntKind.i64.wrap ((BitVec.ofInt 64 x &&& BitVec.ofInt 64 255).toNat : Int) ≤ 255
  generalize (BitVec.ofInt 64 x &&& BitVec.ofInt 64 255).toNat = m at h
  rw [wrap_i64_eq, w64 (by omega) (by omega)]
  omega
theorem new_loop (l : List Int) (hl : l.length ≤ 1048576) : ∀ (d n : Nat) (s : Int), n + d = l.length → ∃ s', Ev (fun k => spec_l1New.l0 k l s (n : Int)) (l, 0, s') := by
  intro d
  induction d with
  | zero =>
    intro n s hn
    refine ⟨s, ev_succ ?_⟩
    simp only [spec_l1New.l0]
    exact ev_neg (by omega) (Ev.now _)
  | succ d ih =>
    intro n s hn
    by_cases h : (n : Int) < 4000
    · obtain ⟨s', e⟩ := ih (n + 1) (Go.bits .and .i64 (wrap64 ((wrap64 ((wrap64 (s * 131)) + (wrap64 (rd l (n : Int))))) + 7)) 1073741823) (by omega)
      refine ⟨s', ev_succ ?_⟩
      simp only [spec_l1New.l0]
      rw [w64_succ (m := l.length) (n := n) (by omega) (by omega)]
      exact ev_pos (by omega) (ev_pos h (ev_pos (by omega) e))
    · refine ⟨s, ev_succ ?_⟩
      simp only [spec_l1New.l0]
      exact ev_pos (by omega) (ev_neg h (Ev.now _))
theorem new_ev (l : List Int) (hl : l.length ≤ 1048576) : ∃ s, Ev (fun k => spec_l1New.f k l) (l, 0, s) := by
  unfold spec_l1New.f
  exact new_loop l hl l.length 0 _ (by omega)
def At_ (l : List Int) (pos : Int) : Prop := 0 ≤ pos ∧ pos ≤ l.length
theorem byte_eq {l : List Int} (hl : l.length ≤ 1048576) {pos : Int} (hp : At_ l pos) (s : Int) : ∃ b pos' s', spec_l1Byte.f l pos s = some (b, pos', s') ∧ 0 ≤ b ∧ b ≤ 255 ∧ At_ l pos' := by
  obtain ⟨h0, h1⟩ := hp
  unfold spec_l1Byte.f
  by_cases h : pos < (l.length : Int)
  · rw [if_pos h, if_pos h0]
    refine ⟨_, _, _, rfl, (and_255 _).1, (and_255 _).2, ?_⟩
    rw [w64 (by omega) (by omega)]
    exact ⟨by omega, by omega⟩
  · rw [if_neg h]
    exact ⟨_, _, _, rfl, (and_255 _).1, (and_255 _).2, h0, h1⟩
theorem tmod_bd {x a : Int} (h0 : 0 ≤ x) (ha : 1 ≤ a) : 0 ≤ Int.tmod x a ∧ Int.tmod x a < a := by
  rw [Int.tmod_eq_emod_of_nonneg h0]
  exact ⟨Int.emod_nonneg _ (by omega), Int.emod_lt_of_pos _ (by omega)⟩
theorem below_eq {l : List Int} (hl : l.length ≤ 1048576) {pos : Int} (hp : At_ l pos) (s : Int) {a : Int} (ha : 1 ≤ a) : ∃ v pos' s', spec_l1Below.f l pos s a = some (v, pos', s') ∧ 0 ≤ v ∧ v < a ∧ At_ l pos' := by
  unfold spec_l1Below.f
  rw [if_neg (by omega)]
  obtain ⟨b0, p0, s0, e0, l0, u0, q0⟩ := byte_eq hl hp s
  obtain ⟨b1, p1, s1, e1, l1, u1, q1⟩ := byte_eq hl q0 s0
  obtain ⟨b2, p2, s2, e2, l2, u2, q2⟩ := byte_eq hl q1 s1
  obtain ⟨b3, p3, s3, e3, l3, u3, q3⟩ := byte_eq hl q2 s2
  by_cases h : a ≤ 256
  · rw [if_pos h, e0]
    simp only [Option.bind_some]
    rw [if_neg (by omega)]
    obtain ⟨t0, t1⟩ := tmod_bd l0 ha
    exact ⟨_, _, _, rfl, t0, t1, q0⟩
  · rw [if_neg h, e0]
    simp only [Option.bind_some, e1, e2, e3]
    rw [if_neg (by omega)]
    have w0 : wrap64 (b0 * 16777216) = b0 * 16777216 := w64 (by omega) (by omega)
    have w1 : wrap64 (b1 * 65536) = b1 * 65536 := w64 (by omega) (by omega)
    have w2 : wrap64 (b2 * 256) = b2 * 256 := w64 (by omega) (by omega)
    have w3 : wrap64 (b0 * 16777216 + b1 * 65536) = b0 * 16777216 + b1 * 65536 := w64 (by omega) (by omega)
    have w4 : wrap64 (b0 * 16777216 + b1 * 65536 + b2 * 256) = b0 * 16777216 + b1 * 65536 + b2 * 256 := w64 (by omega) (by omega)
    have w5 : wrap64 (b0 * 16777216 + b1 * 65536 + b2 * 256 + b3) = b0 * 16777216 + b1 * 65536 + b2 * 256 + b3 := w64 (by omega) (by omega)
    rw [w0, w1, w2, w3, w4, w5]
    obtain ⟨t0, t1⟩ := tmod_bd (x := b0 * 16777216 + b1 * 65536 + b2 * 256 + b3) (by omega) ha
    exact ⟨_, _, _, rfl, t0, t1, q3⟩

def lcgS (x : Int) : Int := wrap64 (wrap64 (x * 6364136223846793005) + 1442695040888963407)
def lcgN : Nat → Int → Int
  | 0, x => x
  | n + 1, x => lcgS (lcgN n x)
theorem lcgN_add (m n : Nat) (x : Int) : lcgN (m + n) x = lcgN m (lcgN n x) := by
  induction m with
  | zero => rw [Nat.zero_add]; rfl
  | succ m ih =>
    rw [show m + 1 + n = (m + n) + 1 by omega]
    simp only [lcgN]
    rw [ih]
theorem lcgN_one (n : Nat) (x : Int) : lcgN (n + 1) x = lcgN n (lcgS x) := lcgN_add n 1 x
def gN : Nat → Int → Int
  | 0, x => x
  | n + 1, x => gN n x * 6364136223846793005 + 1442695040888963407
theorem gN_add (m n : Nat) (x : Int) : gN (m + n) x = gN m (gN n x) := by
  induction m with
  | zero => rw [Nat.zero_add]; rfl
  | succ m ih =>
    rw [show m + 1 + n = (m + n) + 1 by omega]
    simp only [gN]
    rw [ih]
theorem g_pow : ∀ k : Nat, ∃ P Q u v : Int, (∀ y, gN (2 ^ k) y = P * y + Q) ∧ P = 1 + 4 * 2 ^ k * u ∧ Q = 2 ^ k * (2 * v + 1) := by
  intro k
  induction k with
  | zero => exact ⟨6364136223846793005, 1442695040888963407, 1591034055961698251, 721347520444481703, fun y => by show y * _ + _ = _; rw [Int.mul_comm], by decide, by decide⟩
  | succ k ih =>
    obtain ⟨P, Q, u, v, h, hP, hQ⟩ := ih
    refine ⟨P * P, P * Q + Q, u + 2 * 2 ^ k * (u * u), v + 2 ^ k * u * (2 * v + 1), fun y => ?_, ?_, ?_⟩
    · rw [show 2 ^ (k + 1) = 2 ^ k + 2 ^ k by rw [Nat.pow_succ]; omega, gN_add, h, h]
      grind
    · rw [hP, Int.pow_succ]
      grind
    · rw [hP, hQ, Int.pow_succ]
      grind
theorem g_reach : ∀ (k : Nat) (x t : Int), ∃ (n : Nat) (d : Int), gN n x = t + 2 ^ k * d := by
  intro k
  induction k with
  | zero => intro x t; exact ⟨0, x - t, by rw [Int.pow_zero]; simp only [gN]; omega⟩
  | succ k ih =>
    intro x t
    obtain ⟨n, d, h⟩ := ih x t
    rcases Int.emod_two_eq d with e | e
    · refine ⟨n, d / 2, ?_⟩
      rw [h, Int.pow_succ, Int.mul_assoc, show 2 * (d / 2) = d by omega]
    · obtain ⟨P, Q, u, v, hg, hP, hQ⟩ := g_pow k
      refine ⟨2 ^ k + n, d / 2 + 2 * u * gN n x + v + 1, ?_⟩
      rw [gN_add, hg, hP, hQ, Int.pow_succ]
      have hd : d = 2 * (d / 2) + 1 := by omega
      generalize d / 2 = e' at *
      subst hd
      rw [h]
      grind
theorem wrap_mul (x m : Int) : wrap64 (x + 18446744073709551616 * m) = wrap64 x := by
  unfold wrap64
  omega
theorem wrap_ex (x : Int) : ∃ m, wrap64 x = x + 18446744073709551616 * m := by
  unfold wrap64
  refine ⟨-((x + 9223372036854775808) / 18446744073709551616), ?_⟩
  omega
theorem lcg_wrap {x : Int} (hx : wrap64 x = x) : ∀ n, lcgN n x = wrap64 (gN n x) := by
  intro n
  induction n with
  | zero => exact hx.symm
  | succ n ih =>
    simp only [lcgN, gN, lcgS]
    rw [ih]
    obtain ⟨m, hm⟩ := wrap_ex (gN n x)
    rw [hm]
    obtain ⟨q, hq⟩ := wrap_ex ((gN n x + 18446744073709551616 * m) * 6364136223846793005)
    rw [hq, ← wrap_mul (gN n x * 6364136223846793005 + 1442695040888963407) (m * 6364136223846793005 + q)]
    congr 1
    grind
theorem lcg_reach {x t : Int} (hx : wrap64 x = x) (ht : wrap64 t = t) : ∃ n, lcgN n x = t := by
  obtain ⟨n, d, h⟩ := g_reach 64 x t
  refine ⟨n, ?_⟩
  rw [lcg_wrap hx, h, show (2 : Int) ^ 64 = 18446744073709551616 by decide, wrap_mul, ht]
theorem wrap_idem (x : Int) : wrap64 (wrap64 x) = wrap64 x := by
  obtain ⟨m, hm⟩ := wrap_ex x
  rw [hm, wrap_mul, hm]
def byteF (h : Int) : Int := Go.bits .and .i64 (Go.bits .xor .i64 (h / 8589934592) (h / 35184372088832)) 255
def chkB : Nat → Int → Bool
  | 0, _ => true
  | n + 1, s => decide (5 ≤ Int.tmod (byteF (lcgS s)) 30) && chkB n (lcgS s)
theorem chk_good : chkB 60 242788 = true := by kernel_rfl
theorem chk_at : ∀ (n : Nat) (s : Int), chkB n s = true → ∀ i, 1 ≤ i → i ≤ n → 5 ≤ Int.tmod (byteF (lcgN i s)) 30 := by
  intro n
  induction n with
  | zero => intro s _ i h1 h2; omega
  | succ n ih =>
    intro s h i h1 h2
    simp only [chkB, Bool.and_eq_true, decide_eq_true_iff] at h
    obtain ⟨i, rfl⟩ : ∃ j, i = j + 1 := ⟨i - 1, by omega⟩
    rw [lcgN_one]
    by_cases e : i = 0
    · subst e
      exact h.1
    · exact ih _ h.2 i (by omega) (by omega)
theorem good_at {i : Nat} (h1 : 1 ≤ i) (h2 : i ≤ 60) : 5 ≤ Int.tmod (byteF (lcgN i 242788)) 30 := chk_at 60 _ chk_good i h1 h2

theorem spec_in_eq (a b c : Int) : spec_l1In.f a b c = some (decide (b ≤ a ∧ a ≤ c)) := by
  unfold spec_l1In.f
  split
  · congr 1
    rw [decide_eq_decide]
    omega
  · congr 1
    symm
    rw [decide_eq_false_iff_not]
    omega
theorem spec_in_evB (a b c : Int) : EvB (fun _ => spec_l1In.f a b c) (b ≤ a ∧ a ≤ c) := by
  rw [spec_in_eq]
  exact EvB.dec

theorem impl_in_eq (a b c : Int) : impl_in.f a b c = some (decide (b ≤ a ∧ a ≤ c)) := by
  unfold impl_in.f
  split
  · congr 1
    rw [decide_eq_decide]
    omega
  · congr 1
    symm
    rw [decide_eq_false_iff_not]
    omega
theorem impl_in_evB (a b c : Int) : EvB (fun _ => impl_in.f a b c) (b ≤ a ∧ a ≤ c) := by
  rw [impl_in_eq]
  exact EvB.dec

def AllIn (l : List Int) (lo hi : Int) : Prop := ∀ n, n < l.length → lo ≤ l.getD n 0 ∧ l.getD n 0 ≤ hi
def Rise (l : List Int) : Prop := ∀ n, n + 1 < l.length → l.getD n 0 < l.getD (n + 1) 0

theorem spec_all_loop (l : List Int) (lo hi : Int) (hx : l.length ≤ 9223372036854775807) : ∀ (d n : Nat), n + d = l.length → (∀ m, m < n → lo ≤ l.getD m 0 ∧ l.getD m 0 ≤ hi) → ∃ b, Ev (fun k => spec_l1All.l0 k l lo hi (n : Int)) b ∧ (b = true ↔ AllIn l lo hi) := by
  intro d
  induction d with
  | zero =>
    intro n hn hm
    refine ⟨true, ?_, ⟨fun _ m h => hm m (by omega), fun _ => rfl⟩⟩
    refine ev_succ ?_
    simp only [spec_l1All.l0]
    exact ev_neg (by omega) (Ev.now _)
  | succ d ih =>
    intro n hn hm
    by_cases h : lo ≤ l.getD n 0 ∧ l.getD n 0 ≤ hi
    · obtain ⟨b, hb, hiff⟩ := ih (n + 1) (by omega) (fun m hm' => by
        by_cases e : m = n
        · subst e; exact h
        · exact hm m (by omega))
      refine ⟨b, ?_, hiff⟩
      refine ev_succ ?_
      simp only [spec_l1All.l0, spec_in_eq, Option.bind_some]
      refine ev_pos (by omega) (ev_pos (by omega) (ev_pos (by rw [rd_nat]; simpa using h) ?_))
      rw [w64_succ (m := l.length) (by omega) hx]
      exact hb
    · refine ⟨false, ?_, ⟨fun h' => (Bool.false_ne_true h').elim, fun h' => absurd (h' n (by omega)) h⟩⟩
      refine ev_succ ?_
      simp only [spec_l1All.l0, spec_in_eq, Option.bind_some]
      exact ev_pos (by omega) (ev_pos (by omega) (ev_neg (by rw [rd_nat]; simpa using h) (Ev.now _)))
theorem spec_all_ev (l : List Int) (lo hi : Int) (hx : l.length ≤ 9223372036854775807) : ∃ b, Ev (fun k => spec_l1All.f k l lo hi) b ∧ (b = true ↔ AllIn l lo hi) := by
  unfold spec_l1All.f
  exact spec_all_loop l lo hi hx l.length 0 (by omega) (fun m h => by omega)

theorem impl_all_loop (l : List Int) (lo hi : Int) (hx : l.length ≤ 9223372036854775807) : ∀ (d n : Nat), n + d = l.length → (∀ m, m < n → lo ≤ l.getD m 0 ∧ l.getD m 0 ≤ hi) → ∃ b, Ev (fun k => impl_allIn.l0 k lo hi l (l.length : Int) (n : Int)) b ∧ (b = true ↔ AllIn l lo hi) := by
  intro d
  induction d with
  | zero =>
    intro n hn hm
    refine ⟨true, ?_, ⟨fun _ m h => hm m (by omega), fun _ => rfl⟩⟩
    refine ev_succ ?_
    simp only [impl_allIn.l0]
    exact ev_neg (by omega) (Ev.now _)
  | succ d ih =>
    intro n hn hm
    by_cases h : lo ≤ l.getD n 0 ∧ l.getD n 0 ≤ hi
    · obtain ⟨b, hb, hiff⟩ := ih (n + 1) (by omega) (fun m hm' => by
        by_cases e : m = n
        · subst e; exact h
        · exact hm m (by omega))
      refine ⟨b, ?_, hiff⟩
      refine ev_succ ?_
      simp only [impl_allIn.l0, impl_in_eq, Option.bind_some]
      refine ev_pos (by omega) (ev_pos (by omega) (ev_pos (by omega) (ev_pos (by rw [rd_nat]; simpa using h) ?_)))
      rw [w64_succ (m := l.length) (by omega) hx]
      exact hb
    · refine ⟨false, ?_, ⟨fun h' => (Bool.false_ne_true h').elim, fun h' => absurd (h' n (by omega)) h⟩⟩
      refine ev_succ ?_
      simp only [impl_allIn.l0, impl_in_eq, Option.bind_some]
      exact ev_pos (by omega) (ev_pos (by omega) (ev_pos (by omega) (ev_neg (by rw [rd_nat]; simpa using h) (Ev.now _))))
theorem impl_all_ev (l : List Int) (lo hi : Int) (hx : l.length ≤ 9223372036854775807) : ∃ b, Ev (fun k => impl_allIn.f k l lo hi) b ∧ (b = true ↔ AllIn l lo hi) := by
  unfold impl_allIn.f
  exact impl_all_loop l lo hi hx l.length 0 (by omega) (fun m h => by omega)

theorem spec_rise_loop (l : List Int) (hx : l.length ≤ 9223372036854775807) : ∀ (d n : Nat), 1 ≤ n → l.length ≤ n + d → (∀ m, m + 1 < n → l.getD m 0 < l.getD (m + 1) 0) → ∃ b, Ev (fun k => spec_l1Rise.l0 k l (n : Int)) b ∧ (b = true ↔ Rise l) := by
  intro d
  induction d with
  | zero =>
    intro n h1 hn hm
    refine ⟨true, ?_, ⟨fun _ m h => hm m (by omega), fun _ => rfl⟩⟩
    refine ev_succ ?_
    simp only [spec_l1Rise.l0]
    exact ev_neg (by omega) (Ev.now _)
  | succ d ih =>
    intro n h1 hn hm
    by_cases hlt : n < l.length
    · have e1 : wrap64 ((n : Int) - 1) = ((n - 1 : Nat) : Int) := by rw [w64 (by omega) (by omega)]; omega
      by_cases h : l.getD (n - 1) 0 < l.getD n 0
      · obtain ⟨b, hb, hiff⟩ := ih (n + 1) (by omega) (by omega) (fun m hm' => by
          by_cases e : m + 1 = n
          · have : m = n - 1 := by omega
            subst this
            rw [e]; exact h
          · exact hm m (by omega))
        refine ⟨b, ?_, hiff⟩
        refine ev_succ ?_
        simp only [spec_l1Rise.l0, e1, rd_nat]
        refine ev_pos (by omega) (ev_pos (by omega) (ev_pos (by omega) (ev_pos (by omega) (ev_neg (by omega) ?_))))
        rw [w64_succ (m := l.length) (by omega) hx]
        exact hb
      · refine ⟨false, ?_, ⟨fun h' => (Bool.false_ne_true h').elim, fun h' => absurd (by have := h' (n - 1) (by omega); rwa [show n - 1 + 1 = n by omega] at this) h⟩⟩
        refine ev_succ ?_
        simp only [spec_l1Rise.l0, e1, rd_nat]
        exact ev_pos (by omega) (ev_pos (by omega) (ev_pos (by omega) (ev_pos (by omega) (ev_pos (by omega) (Ev.now _)))))
    · refine ⟨true, ?_, ⟨fun _ m h => hm m (by omega), fun _ => rfl⟩⟩
      refine ev_succ ?_
      simp only [spec_l1Rise.l0]
      exact ev_neg (by omega) (Ev.now _)
theorem spec_rise_ev (l : List Int) (hx : l.length ≤ 9223372036854775807) : ∃ b, Ev (fun k => spec_l1Rise.f k l) b ∧ (b = true ↔ Rise l) := by
  unfold spec_l1Rise.f
  exact spec_rise_loop l hx l.length 1 (by omega) (by omega) (fun m h => by omega)

theorem impl_asc_loop (l : List Int) (lo hi : Int) (hx : l.length ≤ 9223372036854775807) : ∀ (d n : Nat), n + d = l.length → (∀ m, m < n → lo ≤ l.getD m 0 ∧ l.getD m 0 ≤ hi) → (∀ m, m + 1 < n → l.getD m 0 < l.getD (m + 1) 0) → ∃ b, Ev (fun k => impl_ascends.l0 k l lo hi l (l.length : Int) (n : Int)) b ∧ (b = true ↔ AllIn l lo hi ∧ Rise l) := by
  intro d
  induction d with
  | zero =>
    intro n hn hm hr
    refine ⟨true, ?_, ⟨fun _ => ⟨fun m h => hm m (by omega), fun m h => hr m (by omega)⟩, fun _ => rfl⟩⟩
    refine ev_succ ?_
    simp only [impl_ascends.l0]
    exact ev_neg (by omega) (Ev.now _)
  | succ d ih =>
    intro n hn hm hr
    by_cases h : lo ≤ l.getD n 0 ∧ l.getD n 0 ≤ hi
    · have hm1 : ∀ m, m < n + 1 → lo ≤ l.getD m 0 ∧ l.getD m 0 ≤ hi := fun m hm' => by
        by_cases e : m = n
        · subst e; exact h
        · exact hm m (by omega)
      by_cases h0 : n = 0
      · obtain ⟨b, hb, hiff⟩ := ih (n + 1) (by omega) hm1 (fun m hm' => by omega)
        refine ⟨b, ?_, hiff⟩
        refine ev_succ ?_
        simp only [impl_ascends.l0, impl_in_eq, Option.bind_some]
        refine ev_pos (by omega) (ev_pos (by omega) (ev_pos (by omega) (ev_pos (by rw [rd_nat]; simpa using h) (ev_neg (by omega) ?_))))
        rw [w64_succ (m := l.length) (by omega) hx]
        exact hb
      · have e1 : wrap64 ((n : Int) - 1) = ((n - 1 : Nat) : Int) := by rw [w64 (by omega) (by omega)]; omega
        by_cases h2 : l.getD (n - 1) 0 < l.getD n 0
        · obtain ⟨b, hb, hiff⟩ := ih (n + 1) (by omega) hm1 (fun m hm' => by
            by_cases e : m + 1 = n
            · have : m = n - 1 := by omega
              subst this
              rw [e]; exact h2
            · exact hr m (by omega))
          refine ⟨b, ?_, hiff⟩
          refine ev_succ ?_
          simp only [impl_ascends.l0, impl_in_eq, Option.bind_some, e1, rd_nat]
          refine ev_pos (by omega) (ev_pos (by omega) (ev_pos (by omega) (ev_pos (by simpa using h) (ev_pos (by omega) (ev_pos (by omega) (ev_pos (by omega) (ev_neg (by omega) ?_)))))))
          rw [w64_succ (m := l.length) (by omega) hx]
          exact hb
        · refine ⟨false, ?_, ⟨fun h' => (Bool.false_ne_true h').elim, fun h' => absurd (by have := h'.2 (n - 1) (by omega); rwa [show n - 1 + 1 = n by omega] at this) h2⟩⟩
          refine ev_succ ?_
          simp only [impl_ascends.l0, impl_in_eq, Option.bind_some, e1, rd_nat]
          exact ev_pos (by omega) (ev_pos (by omega) (ev_pos (by omega) (ev_pos (by simpa using h) (ev_pos (by omega) (ev_pos (by omega) (ev_pos (by omega) (ev_pos (by omega) (Ev.now _))))))))
    · refine ⟨false, ?_, ⟨fun h' => (Bool.false_ne_true h').elim, fun h' => absurd (h'.1 n (by omega)) h⟩⟩
      refine ev_succ ?_
      simp only [impl_ascends.l0, impl_in_eq, Option.bind_some]
      exact ev_pos (by omega) (ev_pos (by omega) (ev_pos (by omega) (ev_neg (by rw [rd_nat]; simpa using h) (Ev.now _))))
theorem impl_asc_ev (l : List Int) (lo hi : Int) (hx : l.length ≤ 9223372036854775807) : ∃ b, Ev (fun k => impl_ascends.f k l lo hi) b ∧ (b = true ↔ AllIn l lo hi ∧ Rise l) := by
  unfold impl_ascends.f
  exact impl_asc_loop l lo hi hx l.length 0 (by omega) (fun m h => by omega) (fun m h => by omega)

def CurveP (X Y : List Int) : Prop := (2 ≤ X.length ∧ X.length ≤ 20) ∧ X.length = Y.length ∧ Rise X ∧ AllIn X (-100000) 100000 ∧ AllIn Y (-100000) 100000
theorem spec_curve_ev (X Y : List Int) (h : X.length + Y.length ≤ 1048576) : EvB (fun k => spec_CurveOk.f k X Y) (CurveP X Y) := by
  unfold spec_CurveOk.f
  exact (EvB.bind (spec_in_evB _ _ _) (EvB.ite (EvB.bind (spec_rise_ev X (by omega)) (EvB.bind (spec_all_ev X _ _ (by omega)) (EvB.last (spec_all_ev Y _ _ (by omega))))))).iff (by
    unfold CurveP
    constructor
    · rintro ⟨h1, h2, h3, h4, h5⟩; exact ⟨by omega, by omega, h3, h4, h5⟩
    · rintro ⟨h1, h2, h3, h4, h5⟩; exact ⟨by omega, by omega, h3, h4, h5⟩)
theorem impl_curve_ev (X Y : List Int) (h : X.length + Y.length ≤ 1048576) : EvB (fun k => impl_CurveOk.f k X Y) (CurveP X Y) := by
  unfold impl_CurveOk.f
  exact (EvB.bind (impl_in_evB _ _ _) (EvB.ite (EvB.bind (impl_asc_ev X _ _ (by omega)) (EvB.last (impl_all_ev Y _ _ (by omega)))))).iff (by
    unfold CurveP
    constructor
    · rintro ⟨h1, h2, ⟨h3, h4⟩, h5⟩; exact ⟨by omega, by omega, h4, h3, h5⟩
    · rintro ⟨h1, h2, h3, h4, h5⟩; exact ⟨by omega, by omega, ⟨h4, h3⟩, h5⟩)

/-- j draws on. -/
def Dr (l : List Int) (j : Nat) (pos s pos' s' : Int) : Prop := At_ l pos' ∧ s' = lcgN j s ∧ (pos + j ≤ (l.length : Int) → pos' = pos + j) ∧ ((l.length : Int) ≤ pos + j → pos' = (l.length : Int))
theorem Dr.end_ {l : List Int} {j : Nat} {pos s pos' s' : Int} (h : Dr l j pos s pos' s') (e : pos = (l.length : Int)) : pos' = (l.length : Int) := h.2.2.2 (by omega)
theorem Dr.trans {l : List Int} {j i : Nat} {p s p1 s1 p2 s2 : Int} (a : Dr l j p s p1 s1) (b : Dr l i p1 s1 p2 s2) : Dr l (i + j) p s p2 s2 := by
  obtain ⟨a1, a2, a3, a4⟩ := a
  obtain ⟨b1, b2, b3, b4⟩ := b
  refine ⟨b1, by rw [b2, a2, lcgN_add], fun h => ?_, fun h => ?_⟩
  · have := a3 (by omega)
    have := b3 (by omega)
    omega
  · by_cases c : p + j ≤ (l.length : Int)
    · have := a3 c
      exact b4 (by omega)
    · have := a4 (by omega)
      exact b4 (by omega)
theorem byte_dr {l : List Int} (hl : l.length ≤ 1048576) {pos : Int} (hp : At_ l pos) (s : Int) : ∃ b pos', spec_l1Byte.f l pos s = some (b, pos', lcgS s) ∧ 0 ≤ b ∧ b ≤ 255 ∧ Dr l 1 pos s pos' (lcgS s) ∧ (pos = (l.length : Int) → b = byteF (lcgS s)) := by
  obtain ⟨h0, h1⟩ := hp
  unfold spec_l1Byte.f
  by_cases h : pos < (l.length : Int)
  · rw [if_pos h, if_pos h0]
    have w : wrap64 (pos + 1) = pos + 1 := w64 (by omega) (by omega)
    refine ⟨_, _, rfl, (and_255 _).1, (and_255 _).2, ?_, fun e => by omega⟩
    rw [w]
    exact ⟨⟨by omega, by omega⟩, rfl, fun _ => rfl, fun _ => by omega⟩
  · rw [if_neg h]
    exact ⟨_, _, rfl, (and_255 _).1, (and_255 _).2, ⟨⟨h0, h1⟩, rfl, fun _ => by omega, fun _ => by omega⟩, fun _ => rfl⟩
theorem below_dr {l : List Int} (hl : l.length ≤ 1048576) {pos : Int} (hp : At_ l pos) (s : Int) {a : Int} (ha : 1 ≤ a) (ha' : a ≤ 256) : ∃ v pos', spec_l1Below.f l pos s a = some (v, pos', lcgS s) ∧ 0 ≤ v ∧ v < a ∧ Dr l 1 pos s pos' (lcgS s) ∧ (pos = (l.length : Int) → v = Int.tmod (byteF (lcgS s)) a) := by
  obtain ⟨b, p', e, b0, b1, d, g⟩ := byte_dr hl hp s
  obtain ⟨t0, t1⟩ := tmod_bd b0 ha
  refine ⟨Int.tmod b a, p', ?_, t0, t1, d, fun h => by rw [g h]⟩
  unfold spec_l1Below.f
  rw [if_neg (by omega), if_pos ha', e]
  simp only [Option.bind_some]
  rw [if_neg (by omega)]
theorem pick_dr {l : List Int} (hl : l.length ≤ 1048576) {pos : Int} (hp : At_ l pos) (s : Int) (q : List Int) (h1 : 1 ≤ q.length) (h2 : q.length ≤ 256) : ∃ v pos', spec_l1PickInt.f l pos s q = some (v, pos', lcgS s) ∧ Dr l 1 pos s pos' (lcgS s) := by
  obtain ⟨v, p', e, v0, v1, d, _⟩ := below_dr hl hp s (a := (q.length : Int)) (by omega) (by omega)
  unfold spec_l1PickInt.f
  rw [e]
  simp only [Option.bind_some]
  rw [if_pos v0, if_pos v1]
  exact ⟨_, _, rfl, d⟩
theorem len_lt {n : Nat} (h : n < 1000) : n < 17592186044416 := Nat.lt_trans h (by decide)
theorem getD_app (q : List Int) (o : Int) (i : Nat) : (q ++ [o]).getD i 0 = if i < q.length then q.getD i 0 else if i = q.length then o else 0 := by
  simp only [List.getD_eq_getElem?_getD, List.getElem?_append]
  split
  · rfl
  · split
    · rename_i h
      subst h
      simp
    · rename_i h h'
      rw [List.getElem?_eq_none (by simp; omega)]
      rfl
theorem rise_dr {l : List Int} (hl : l.length ≤ 1048576) (x1 x3 : Int) (h1 : x1 ≤ 30) (h3 : 1 ≤ x3) (h3' : x3 ≤ 12) : ∀ (d n : Nat) (q : List Int) (o pos s : Int), (n : Int) + d = x1 → q.length = n → At_ l pos → (-15 ≤ o ∧ o ≤ 15 + 12 * (n : Int)) → Rise q → (∀ i, i < n → -15 ≤ q.getD i 0 ∧ q.getD i 0 < o) →
    ∃ (R : List Int) (pos' : Int), Ev (fun k => spec_l1DrawRise.l0 k x1 x3 q o (n : Int) l pos s) (R, pos', lcgN d s) ∧ (R.length : Int) = x1 ∧ Dr l d pos s pos' (lcgN d s) ∧ Rise R ∧ (∀ i, i < R.length → -15 ≤ R.getD i 0 ∧ R.getD i 0 ≤ 400) := by
  intro d
  induction d with
  | zero =>
    intro n q o pos s hn hq hp ho hr hb
    refine ⟨q, pos, ev_succ ?_, by omega, ⟨hp, rfl, fun _ => by simp, fun h => by have := hp.2; simp at h; omega⟩, hr, fun i hi => ?_⟩
    · simp only [spec_l1DrawRise.l0]
      exact ev_neg (by omega) (Ev.now _)
    · have := hb i (by omega)
      omega
  | succ d ih =>
    intro n q o pos s hn hq hp ho hr hb
    obtain ⟨v, p', e, v0, v1, dr, _⟩ := below_dr hl hp s h3 (by omega)
    have hw := w64_succ (n := n) (m := 1000) (by omega) (by omega)
    have w1 : wrap64 (wrap64 (o + 1) + v) = o + 1 + v := by rw [w64 (x := o + 1) (by omega) (by omega), w64 (by omega) (by omega)]
    obtain ⟨R, p2, a1, a2, a3, a4, a5⟩ := ih (n + 1) (q ++ [o]) (o + 1 + v) p' (lcgS s) (by omega) (by simp; omega) dr.1 (by omega) (by
      intro i hi
      rw [List.length_append] at hi
      simp only [List.length_singleton] at hi
      rw [getD_app, getD_app, if_pos (by omega)]
      by_cases c : i + 1 < q.length
      · rw [if_pos c]
        exact hr i c
      · rw [if_neg c, if_pos (by omega)]
        exact (hb i (by omega)).2) (by
      intro i hi
      rw [getD_app]
      by_cases c : i < q.length
      · rw [if_pos c]
        have := hb i (by omega)
        omega
      · rw [if_neg c, if_pos (by omega)]
        omega)
    refine ⟨R, p2, ev_succ ?_, a2, ?_, a4, a5⟩
    · rw [lcgN_one]
      simp only [spec_l1DrawRise.l0, e, hw, w1, Option.bind_some]
      exact ev_pos (by omega) (ev_pos (len_lt (by omega)) a1)
    · rw [lcgN_one]
      exact dr.trans a3
theorem rise_start {l : List Int} (hl : l.length ≤ 1048576) {x1 x3 o pos : Int} (s : Int) (h0 : 0 ≤ x1) (h1 : x1 ≤ 30) (h3 : 1 ≤ x3) (h3' : x3 ≤ 12) (hp : At_ l pos) (ho : -15 ≤ o ∧ o ≤ 15) :
    ∃ (R : List Int) (pos' : Int), Ev (fun k => spec_l1DrawRise.f k l pos s x1 o x3) (R, pos', lcgN x1.toNat s) ∧ (R.length : Int) = x1 ∧ Dr l x1.toNat pos s pos' (lcgN x1.toNat s) ∧ Rise R ∧ (∀ i, i < R.length → -15 ≤ R.getD i 0 ∧ R.getD i 0 ≤ 400) :=
  rise_dr hl x1 x3 h1 h3 h3' x1.toNat 0 [] o pos s (by omega) rfl hp (by omega) (fun i hi => by simp at hi) (fun i hi => by omega)
/-- Behind the X: the Y, one after the other, and the switch. -/
theorem ys_dr {l : List Int} (hl : l.length ≤ 1048576) (R : List Int) (hR : 2 ≤ R.length ∧ R.length ≤ 20) (hr : Rise R) (hb : ∀ i, i < R.length → -15 ≤ R.getD i 0 ∧ R.getD i 0 ≤ 400) : ∀ (d n : Nat) (Y : List Int) (pos s : Int), n + d = R.length → Y.length = n → At_ l pos → (∀ i, i < n → -40 ≤ Y.getD i 0 ∧ Y.getD i 0 ≤ 40) →
    ∃ (A B : List Int) (pos' : Int) (j : Nat), Ev (fun k => spec_l1DrawCurve.l0 k (n : Int) l pos s R Y) (A, B, pos', lcgN j s) ∧ Dr l j pos s pos' (lcgN j s) ∧ d + 1 ≤ j ∧ j ≤ d + 23 ∧ A.length ≤ 60 ∧ B.length ≤ 60 ∧ (pos = (l.length : Int) → 5 ≤ Int.tmod (byteF (lcgN (d + 1) s)) 30 → CurveP A B) := by
  intro d
  induction d with
  | zero =>
    intro n Y pos s hn hY hp hy
    obtain ⟨v, p1, e, v0, v1, dr, hv⟩ := below_dr hl hp s (a := 30) (by omega) (by omega)
    have bad : v < 5 → ∀ {P : Prop}, pos = (l.length : Int) → 5 ≤ Int.tmod (byteF (lcgN (0 + 1) s)) 30 → P := by
      intro h P hpos h5
      have := hv hpos
      have e1 : lcgN (0 + 1) s = lcgS s := rfl
      rw [e1] at h5
      omega
    have hnn : ¬ ((n : Int) < (R.length : Int)) := by omega
    have two : ∀ (x p2 : Int), Dr l 1 p1 (lcgS s) p2 (lcgS (lcgS s)) → Dr l 2 pos s p2 (lcgN 2 s) := fun x p2 h => dr.trans h
    by_cases c0 : v = 0
    · obtain ⟨x, p2, e2, d2⟩ := pick_dr hl dr.1 (lcgS s) [-100000, -100001, 50] (by decide) (by decide)
      refine ⟨R.set 0 x, Y, p2, 2, ev_succ ?_, two 0 p2 d2, by omega, by omega, by rw [List.length_set]; omega, by omega, fun a b => bad (by omega) a b⟩
      simp only [spec_l1DrawCurve.l0, e, e2, Option.bind_some]
      exact ev_neg hnn (ev_pos c0 (ev_pos (by omega) (Ev.now _)))
    by_cases c1 : v = 1
    · obtain ⟨x, p2, e2, d2⟩ := pick_dr hl dr.1 (lcgS s) [-100000, 100000, 100001] (by decide) (by decide)
      refine ⟨R, Y.set 1 x, p2, 2, ev_succ ?_, two 0 p2 d2, by omega, by omega, by omega, by rw [List.length_set]; omega, fun a b => bad (by omega) a b⟩
      simp only [spec_l1DrawCurve.l0, e, e2, Option.bind_some]
      exact ev_neg hnn (ev_neg c0 (ev_pos c1 (ev_pos (by omega) (Ev.now _))))
    by_cases c2 : v = 2
    · refine ⟨R, Y ++ [3], p1, 1, ev_succ ?_, dr, by omega, by omega, by omega, by simp; omega, fun a b => bad (by omega) a b⟩
      simp only [spec_l1DrawCurve.l0, e, Option.bind_some]
      exact ev_neg hnn (ev_neg c0 (ev_neg c1 (ev_pos c2 (ev_pos (len_lt (by omega)) (Ev.now _)))))
    by_cases c3 : v = 3
    · obtain ⟨x, p2, e2, x0, x1, d2, _⟩ := below_dr hl dr.1 (lcgS s) (a := 2) (by omega) (by omega)
      have w : wrap64 (20 + x) = 20 + x := w64 (by omega) (by omega)
      obtain ⟨Q, p3, e3, q1, d3, _, _⟩ := rise_start hl (x1 := 20 + x) (x3 := 3) (o := 0) (lcgS (lcgS s)) (by omega) (by omega) (by omega) (by omega) d2.1 (by omega)
      have tr := (dr.trans d2).trans d3
      have es : lcgN ((20 + x).toNat + (1 + 1)) s = lcgN (20 + x).toNat (lcgS (lcgS s)) := lcgN_add _ 2 s
      have q2 : Q.length < 1000 := by omega
      have q3 : ((Q.length : Int) : Int).toNat ≤ 35184372088832 := by
        rw [Int.toNat_natCast]
        exact Nat.le_trans (Nat.le_of_lt (len_lt q2)) (by decide)
      refine ⟨Q, List.replicate Q.length 0, p3, (20 + x).toNat + (1 + 1), ev_succ ?_, by rw [es]; exact tr, by omega, by omega, by omega, by rw [List.length_replicate]; omega, fun a b => bad (by omega) a b⟩
      rw [es]
      simp only [spec_l1DrawCurve.l0, e, e2, w, Option.bind_some]
      exact ev_neg hnn (ev_neg c0 (ev_neg c1 (ev_neg c2 (ev_pos c3 (Ev.bind e3 (ev_pos (Int.natCast_nonneg _) (ev_pos q3 (Ev.now _))))))))
    by_cases c4 : v = 4
    · refine ⟨[4], [5], p1, 1, ev_succ ?_, dr, by omega, by omega, by simp, by simp, fun a b => bad (by omega) a b⟩
      simp only [spec_l1DrawCurve.l0, e, Option.bind_some]
      exact ev_neg hnn (ev_neg c0 (ev_neg c1 (ev_neg c2 (ev_neg c3 (ev_pos c4 (Ev.now _))))))
    refine ⟨R, Y, p1, 1, ev_succ ?_, dr, by omega, by omega, by omega, by omega, fun _ _ => ⟨hR, by omega, hr, fun i hi => ?_, fun i hi => ?_⟩⟩
    · simp only [spec_l1DrawCurve.l0, e, Option.bind_some]
      exact ev_neg hnn (ev_neg c0 (ev_neg c1 (ev_neg c2 (ev_neg c3 (ev_neg c4 (Ev.now _))))))
    · have := hb i hi
      omega
    · have := hy i (by omega)
      omega
  | succ d ih =>
    intro n Y pos s hn hY hp hy
    obtain ⟨v, p1, e, v0, v1, dr, hv⟩ := below_dr hl hp s (a := 81) (by omega) (by omega)
    have hw := w64_succ (n := n) (m := 1000) (by omega) (by omega)
    have w1 : wrap64 (v - 40) = v - 40 := w64 (by omega) (by omega)
    obtain ⟨A, B, p2, j, a1, a2, a3, a4, a5, a6, a7⟩ := ih (n + 1) (Y ++ [v - 40]) p1 (lcgS s) (by omega) (by simp; omega) dr.1 (by
      intro i hi
      rw [getD_app]
      by_cases c : i < Y.length
      · rw [if_pos c]
        exact hy i (by omega)
      · rw [if_neg c, if_pos (by omega)]
        omega)
    refine ⟨A, B, p2, j + 1, ev_succ ?_, ?_, by omega, by omega, a5, a6, fun h h5 => a7 (dr.end_ h) ?_⟩
    · rw [lcgN_one]
      simp only [spec_l1DrawCurve.l0, e, hw, w1, Option.bind_some]
      exact ev_pos (by omega) (ev_pos (len_lt (by omega)) a1)
    · rw [lcgN_one]
      exact dr.trans a2
    · rw [lcgN_one] at h5
      exact h5
/-- One attempt. -/
theorem att_dr {l : List Int} (hl : l.length ≤ 1048576) {pos : Int} (hp : At_ l pos) (s : Int) :
    ∃ (A B : List Int) (pos' : Int) (j : Nat), Ev (fun k => spec_l1DrawCurve.f k l pos s) (A, B, pos', lcgN j s) ∧ Dr l j pos s pos' (lcgN j s) ∧ 1 ≤ j ∧ j ≤ 39 ∧ A.length ≤ 60 ∧ B.length ≤ 60 ∧ (pos = (l.length : Int) → (∀ i, 1 ≤ i → i ≤ 17 → 5 ≤ Int.tmod (byteF (lcgN i s)) 30) → CurveP A B) := by
  obtain ⟨v, p1, e1, v0, v1, d1, _⟩ := below_dr hl hp s (a := 6) (by omega) (by omega)
  obtain ⟨g, p2, e2, g0, g1, d2, _⟩ := below_dr hl d1.1 (lcgS s) (a := 30) (by omega) (by omega)
  have w1 : wrap64 (2 + v) = 2 + v := w64 (by omega) (by omega)
  have w2 : wrap64 (g - 15) = g - 15 := w64 (by omega) (by omega)
  obtain ⟨R, p3, e3, r1, d3, r2, r3⟩ := rise_start hl (x1 := 2 + v) (x3 := 12) (o := g - 15) (lcgS (lcgS s)) (by omega) (by omega) (by omega) (by omega) d2.1 (by omega)
  obtain ⟨A, B, p4, j, e4, d4, j1, j2, a1, b1, hc⟩ := ys_dr hl R (by omega) r2 r3 R.length 0 [] p3 (lcgN (2 + v).toNat (lcgS (lcgS s))) (by omega) rfl d3.1 (fun i hi => by omega)
  have tr := ((d1.trans d2).trans d3).trans d4
  have es : ∀ i, lcgN (i + ((2 + v).toNat + (1 + 1))) s = lcgN i (lcgN (2 + v).toNat (lcgS (lcgS s))) := by
    intro i
    rw [lcgN_add i, lcgN_add (2 + v).toNat]
    rfl
  refine ⟨A, B, p4, j + ((2 + v).toNat + (1 + 1)), ?_, by rw [es]; exact tr, by omega, by omega, a1, b1, fun h h5 => hc (d3.end_ (d2.end_ (d1.end_ h))) ?_⟩
  · unfold spec_l1DrawCurve.f
    rw [es]
    simp only [e1, e2, w1, w2, Option.bind_some]
    exact Ev.bind e3 e4
  · rw [← es]
    exact h5 _ (by omega) (by omega)

theorem mul_bd {a b : Int} (A B : Int) (ha : -A ≤ a ∧ a ≤ A) (hb : -B ≤ b ∧ b ≤ B) : -(A * B) ≤ a * b ∧ a * b ≤ A * B := by
  have h : (a * b).natAbs ≤ A.natAbs * B.natAbs := by
    rw [Int.natAbs_mul]
    exact Nat.mul_le_mul (by omega) (by omega)
  have e : A * B = ((A.natAbs * B.natAbs : Nat) : Int) := by
    rw [Int.natCast_mul, Int.natAbs_of_nonneg (by omega), Int.natAbs_of_nonneg (by omega)]
  omega

def dX (X : List Int) (i : Nat) : Int := X.getD (i + 1) 0 - X.getD i 0
def val (X Y : List Int) (i : Nat) (x : Int) : Int := Y.getD i 0 * dX X i + (Y.getD (i + 1) 0 - Y.getD i 0) * (x - X.getD i 0)
theorem last_nat {T : List Int} (h : 1 ≤ T.length) (h' : T.length ≤ 1048576) : wrap64 ((T.length : Int) - 1) = ((T.length - 1 : Nat) : Int) := by
  rw [w64 (by omega) (by omega)]
  omega
theorem curve_at {X Y : List Int} (hP : CurveP X Y) {i : Nat} (h : i + 1 < X.length) : (-100000 ≤ X.getD i 0 ∧ X.getD i 0 ≤ 100000) ∧ (-100000 ≤ X.getD (i + 1) 0 ∧ X.getD (i + 1) 0 ≤ 100000) ∧ (-100000 ≤ Y.getD i 0 ∧ Y.getD i 0 ≤ 100000) ∧ (-100000 ≤ Y.getD (i + 1) 0 ∧ Y.getD (i + 1) 0 ≤ 100000) ∧ (1 ≤ dX X i ∧ dX X i ≤ 200000) := by
  obtain ⟨hl, he, hr, hX, hY⟩ := hP
  have x0 := hX i (by omega)
  have x1 := hX (i + 1) (by omega)
  have y0 := hY i (by omega)
  have y1 := hY (i + 1) (by omega)
  have r := hr i h
  refine ⟨x0, x1, y0, y1, ?_⟩
  unfold dX
  omega
set_option maxHeartbeats 2000000 in
theorem between_eq {X Y : List Int} (hP : CurveP X Y) {i : Nat} (h : i + 1 < X.length) {x : Int} (h0 : X.getD i 0 ≤ x) (h1 : x ≤ X.getD (i + 1) 0) : impl_between.f (X.getD i 0) (X.getD (i + 1) 0) (Y.getD i 0) (Y.getD (i + 1) 0) x = some (val X Y i x, dX X i) := by
  obtain ⟨x0, x1, y0, y1, d⟩ := curve_at hP h
  have e1 : wrap64 (X.getD (i + 1) 0 - X.getD i 0) = dX X i := w64 (by omega) (by omega)
  have e2 : wrap64 (Y.getD (i + 1) 0 - Y.getD i 0) = Y.getD (i + 1) 0 - Y.getD i 0 := w64 (by omega) (by omega)
  have e3 : wrap64 (x - X.getD i 0) = x - X.getD i 0 := w64 (by omega) (by omega)
  have m1 := mul_bd 100000 200000 y0 (b := dX X i) (by omega)
  have m2 := mul_bd 200000 200000 (a := Y.getD (i + 1) 0 - Y.getD i 0) (b := x - X.getD i 0) (by omega) (by omega)
  have e4 : wrap64 (Y.getD i 0 * dX X i) = Y.getD i 0 * dX X i := w64 (by omega) (by omega)
  have e5 : wrap64 ((Y.getD (i + 1) 0 - Y.getD i 0) * (x - X.getD i 0)) = (Y.getD (i + 1) 0 - Y.getD i 0) * (x - X.getD i 0) := w64 (by omega) (by omega)
  unfold impl_between.f
  rw [e1, e2, e3, e4, e5, w64 (by omega) (by omega)]
  rfl
theorem no_hit {a b v d t : Int} (ha : a < v) (hb : b < v) (h0 : 0 ≤ t) (h1 : t ≤ d) (hd : 1 ≤ d) : ¬ (a * d + (b - a) * t ≥ v * d) := by
  have p := Int.mul_le_mul_of_nonneg_right (show 1 ≤ v - a by omega) (show 0 ≤ d - t by omega)
  have q := Int.mul_le_mul_of_nonneg_right (show 1 ≤ v - b by omega) h0
  rw [Int.sub_mul, Int.one_mul, Int.mul_sub, Int.mul_sub] at p
  rw [Int.sub_mul, Int.one_mul] at q
  rw [Int.sub_mul]
  omega
theorem ceil_facts {A e d : Int} (hA : 1 ≤ A) (he : 1 ≤ e) (hd : A ≤ e * d) : 1 ≤ (A + e - 1) / e ∧ (A + e - 1) / e ≤ d ∧ A ≤ e * ((A + e - 1) / e) ∧ (∀ t, t < (A + e - 1) / e → e * t < A) := by
  have p := Int.mul_ediv_add_emod (A + e - 1) e
  have q := Int.emod_nonneg (A + e - 1) (show e ≠ 0 by omega)
  have r := Int.emod_lt_of_pos (A + e - 1) (show 0 < e by omega)
  generalize (A + e - 1) / e = c at *
  have c1 : 1 ≤ c := by
    by_cases h : c ≤ 0
    · have := Int.mul_le_mul_of_nonneg_left h (show 0 ≤ e by omega)
      omega
    · omega
  refine ⟨c1, ?_, by omega, fun t ht => ?_⟩
  · by_cases h : c ≤ d
    · exact h
    · have := Int.mul_le_mul_of_nonneg_left (show d + 1 ≤ c by omega) (show 0 ≤ e by omega)
      rw [Int.mul_add, Int.mul_one] at this
      omega
  · have := Int.mul_le_mul_of_nonneg_left (show t + 1 ≤ c by omega) (show 0 ≤ e by omega)
    rw [Int.mul_add, Int.mul_one] at this
    omega
def ce (X Y : List Int) (i : Nat) (v : Int) : Int := ((v - Y.getD i 0) * dX X i + (Y.getD (i + 1) 0 - Y.getD i 0) - 1) / (Y.getD (i + 1) 0 - Y.getD i 0)
set_option maxHeartbeats 2000000 in
theorem seg_facts {X Y : List Int} (hP : CurveP X Y) {i : Nat} (h : i + 1 < X.length) {v : Int} (h0 : Y.getD i 0 < v) (h1 : v ≤ Y.getD (i + 1) 0) : 1 ≤ ce X Y i v ∧ ce X Y i v ≤ dX X i ∧ (∀ t, val X Y i (X.getD i 0 + t) ≥ v * dX X i ↔ ce X Y i v ≤ t) := by
  obtain ⟨x0, x1, y0, y1, d⟩ := curve_at hP h
  have p := Int.mul_le_mul_of_nonneg_right (show 1 ≤ v - Y.getD i 0 by omega) (show 0 ≤ dX X i by omega)
  have q := Int.mul_le_mul_of_nonneg_right (show v - Y.getD i 0 ≤ Y.getD (i + 1) 0 - Y.getD i 0 by omega) (show 0 ≤ dX X i by omega)
  obtain ⟨c1, c2, c3, c4⟩ := ceil_facts (A := (v - Y.getD i 0) * dX X i) (e := Y.getD (i + 1) 0 - Y.getD i 0) (d := dX X i) (by omega) (by omega) q
  refine ⟨c1, c2, fun t => ?_⟩
  unfold val
  rw [show X.getD i 0 + t - X.getD i 0 = t by omega]
  have e : (v - Y.getD i 0) * dX X i = v * dX X i - Y.getD i 0 * dX X i := Int.sub_mul ..
  constructor
  · intro hh
    by_cases g : ce X Y i v ≤ t
    · exact g
    · have := c4 t (by unfold ce at g; omega)
      omega
  · intro hh
    have := Int.mul_le_mul_of_nonneg_left hh (show 0 ≤ Y.getD (i + 1) 0 - Y.getD i 0 by omega)
    unfold ce at this
    omega
set_option maxHeartbeats 2000000 in
theorem scan_step {X Y : List Int} (hP : CurveP X Y) {i : Nat} (h : i + 1 < X.length) {v x : Int} (hv : -100000 ≤ v ∧ v ≤ 100000) (h0 : X.getD i 0 ≤ x) (h1 : x ≤ X.getD (i + 1) 0) {R : Int × Bool} (hh : if val X Y i x ≥ v * dX X i then R = (x, true) else Ev (fun k => impl_Find.l1 k v (i : Int) (x + 1) ((X.length - 1 : Nat) : Int) (i : Int) X Y) R) : Ev (fun k => impl_Find.l1 k v (i : Int) x ((X.length - 1 : Nat) : Int) (i : Int) X Y) R := by
  have hl := hP.1
  have he := hP.2.1
  have k0 : (0 : Int) ≤ ((i + 1 : Nat) : Int) := Int.natCast_nonneg _
  have k1 : ((i + 1 : Nat) : Int) < (X.length : Int) := Int.ofNat_lt.mpr h
  have k2 : (0 : Int) ≤ (i : Int) := Int.natCast_nonneg _
  have k3 : (i : Int) < (X.length : Int) := by omega
  have k4 : (i : Int) < (Y.length : Int) := by omega
  have k5 : ((i + 1 : Nat) : Int) < (Y.length : Int) := by omega
  have e1 := w64_succ (m := X.length) (n := i) (by omega) (by omega)
  obtain ⟨x0, x1, y0, y1, d⟩ := curve_at hP h
  have e2 : wrap64 (x + 1) = x + 1 := w64 (by omega) (by omega)
  have m := mul_bd 100000 200000 (a := v) (b := dX X i) hv (by omega)
  have e3 : wrap64 (v * dX X i) = v * dX X i := w64 (by omega) (by omega)
  refine ev_succ ?_
  simp only [impl_Find.l1, e1, rd_nat, between_eq hP h h0 h1, Option.bind_some, e2, e3]
  refine ev_pos k0 (ev_pos k1 (ev_pos h1 (ev_pos k2 (ev_pos k3 (ev_pos k4 (ev_pos k5 ?_))))))
  by_cases c : val X Y i x ≥ v * dX X i
  · rw [if_pos c] at hh
    rw [hh]
    exact ev_pos c (Ev.now _)
  · rw [if_neg c] at hh
    exact ev_neg c hh
set_option maxHeartbeats 2000000 in
theorem scan_none {X Y : List Int} (hP : CurveP X Y) {i : Nat} (h : i + 1 < X.length) {v : Int} (hv : -100000 ≤ v ∧ v ≤ 100000) (ha : Y.getD i 0 < v) (hb : Y.getD (i + 1) 0 < v) {R : Int × Bool} (hR : Ev (fun k => impl_Find.l0 k v ((X.length - 1 : Nat) : Int) ((i + 1 : Nat) : Int) X Y) R) : ∀ (D : Nat) (x : Int), X.getD i 0 ≤ x → X.getD (i + 1) 0 + 1 - x = D → Ev (fun k => impl_Find.l1 k v (i : Int) x ((X.length - 1 : Nat) : Int) (i : Int) X Y) R := by
  obtain ⟨x0, x1, y0, y1, d⟩ := curve_at hP h
  have hl := hP.1
  have e1 := w64_succ (m := X.length) (n := i) (by omega) (by omega)
  intro D
  induction D with
  | zero =>
    intro x h0 hD
    refine ev_succ ?_
    simp only [impl_Find.l1, e1, rd_nat]
    exact ev_pos (by omega) (ev_pos (by omega) (ev_neg (by omega) hR))
  | succ D ih =>
    intro x h0 hD
    refine scan_step hP h hv h0 (by omega) ?_
    have hx : x - X.getD i 0 ≤ dX X i := by unfold dX; omega
    rw [if_neg (show ¬ val X Y i x ≥ v * dX X i from no_hit ha hb (by omega) hx d.1)]
    exact ih (x + 1) (by omega) (by omega)
set_option maxHeartbeats 2000000 in
theorem scan_hit {X Y : List Int} (hP : CurveP X Y) {i : Nat} (h : i + 1 < X.length) {v : Int} (hv : -100000 ≤ v ∧ v ≤ 100000) (ha : Y.getD i 0 < v) (hb : v ≤ Y.getD (i + 1) 0) : ∀ (D : Nat) (t : Int), 0 ≤ t → ce X Y i v - t = D → Ev (fun k => impl_Find.l1 k v (i : Int) (X.getD i 0 + t) ((X.length - 1 : Nat) : Int) (i : Int) X Y) (X.getD i 0 + ce X Y i v, true) := by
  obtain ⟨f1, f2, f3⟩ := seg_facts hP h ha hb
  have f2' := f2
  unfold dX at f2'
  intro D
  induction D with
  | zero =>
    intro t h0 hD
    have ht : t = ce X Y i v := by omega
    refine scan_step hP h hv (by omega) (by omega) ?_
    rw [if_pos ((f3 t).2 (by omega)), ht]
  | succ D ih =>
    intro t h0 hD
    refine scan_step hP h hv (by omega) (by omega) ?_
    rw [if_neg (fun g => by have := (f3 t).1 g; omega), Int.add_assoc]
    exact ih (t + 1) (by omega) (by omega)

theorem tmod_nat (a b : Nat) : Int.tmod (a : Int) (b : Int) = ((a % b : Nat) : Int) := rfl
theorem impl_gcd_loop : ∀ (m : Nat) (a b : Int), b.natAbs = m → a.natAbs ≤ 9223372036854775807 → b.natAbs ≤ 9223372036854775807 → Ev (fun k => impl_gcd.l0 k a b) ((Nat.gcd a.natAbs b.natAbs : Nat) : Int) := by
  intro m
  induction m using Nat.strongRecOn with
  | _ m ih =>
    intro a b hm ha hb
    refine ev_succ ?_
    simp only [impl_gcd.l0, impl_size.f, Option.bind_some]
    by_cases h0 : b = 0
    · subst h0
      rw [Int.natAbs_zero, Nat.gcd_zero_right]
      have e : mx a (wrap64 (-a)) = (a.natAbs : Int) := by
        rw [w64 (by omega) (by omega)]
        unfold mx
        split <;> omega
      rw [e]
      exact ev_pos (by trivial) (Ev.now _)
    · have e : (Int.tmod a b).natAbs = a.natAbs % b.natAbs := Int.natAbs_tmod a b
      have hlt : a.natAbs % b.natAbs < b.natAbs := Nat.mod_lt _ (by omega)
      have := ih (Int.tmod a b).natAbs (by omega) b (Int.tmod a b) rfl hb (by omega)
      rw [e] at this
      rw [Nat.gcd_comm a.natAbs b.natAbs, Nat.gcd_rec b.natAbs a.natAbs, Nat.gcd_comm]
      exact ev_neg h0 this
theorem frac_ev {n d : Int} (hn : -9223372036854775807 ≤ n ∧ n ≤ 9223372036854775807) (hd : 0 < d ∧ d ≤ 9223372036854775807) : Ev (fun k => impl_frac.f k n d) (wrap64 (Int.tdiv n ((Nat.gcd n.natAbs d.natAbs : Nat) : Int)), wrap64 (Int.tdiv d ((Nat.gcd n.natAbs d.natAbs : Nat) : Int))) := by
  have hg : Nat.gcd n.natAbs d.natAbs ≠ 0 := by
    intro h
    have := Nat.eq_zero_of_gcd_eq_zero_right h
    omega
  unfold impl_frac.f impl_gcd.f
  exact Ev.bind (impl_gcd_loop d.natAbs n d rfl (by omega) (by omega)) (ev_neg (by omega) (Ev.now _))
/-- a multiple of the denominator -/
theorem frac_mul {z d : Int} (hz : -1000000000 ≤ z ∧ z ≤ 1000000000) (hd : 0 < d ∧ d ≤ 1000000000) : Ev (fun k => impl_frac.f k (z * d) d) (z, 1) := by
  have m := mul_bd 1000000000 1000000000 hz (b := d) (by omega)
  have h := frac_ev (n := z * d) (d := d) (by omega) (by omega)
  have e : Nat.gcd (z * d).natAbs d.natAbs = d.natAbs := by rw [Int.natAbs_mul]; exact Nat.gcd_mul_left_left _ _
  have e2 : ((d.natAbs : Nat) : Int) = d := by omega
  rw [e, e2, Int.mul_tdiv_cancel _ (by omega), Int.tdiv_self (by omega), w64 (by omega) (by omega), w64 (by omega) (by omega)] at h
  exact h

theorem big_ev {l : List Int} (h : l.length ≤ 1048576) : laws_big.f l = some false := by
  unfold laws_big.f
  rw [decide_eq_false (by omega)]
theorem big_big {l : List Int} (h : ¬ l.length ≤ 1048576) : laws_big.f l = some true := by
  unfold laws_big.f
  rw [decide_eq_true (by omega)]

theorem rise_mono {T : List Int} (h : Rise T) : ∀ (d i : Nat), i + d < T.length → T.getD i 0 ≤ T.getD (i + d) 0 := by
  intro d
  induction d with
  | zero => intro i _; exact Int.le_refl _
  | succ d ih =>
    intro i hi
    have a := ih i (by omega)
    have b := h (i + d) (by omega)
    rw [show i + (d + 1) = i + d + 1 by omega]
    omega
theorem rise_le2 {T : List Int} (h : Rise T) {i j : Nat} (hij : i ≤ j) (hj : j < T.length) : T.getD i 0 ≤ T.getD j 0 := by
  have := rise_mono h (j - i) i (by omega)
  rwa [show i + (j - i) = j by omega] at this
def Goal (l : List Int) (pos s : Int) (X Y : List Int) : Prop := ∃ (X' Y' : List Int) (x : Int), Ev (fun k => spec_DrawCurve.l0 k l pos s X Y) (X', Y', x) ∧ CurveP X' Y' ∧ X'.getD 0 0 ≤ x ∧ x ≤ X'.getD (X'.length - 1) 0
theorem goal_fin {l : List Int} (hl : l.length ≤ 1048576) {pos : Int} (hp : At_ l pos) (s : Int) {X Y : List Int} (hP : CurveP X Y) : Goal l pos s X Y := by
  obtain ⟨b, hb, ib⟩ := spec_curve_ev X Y (by have := hP.1; have := hP.2.1; omega)
  obtain rfl : b = true := ib.2 hP
  obtain ⟨hn, he, hr, hX, hY⟩ := hP
  have e := last_nat (T := X) (by omega) (by omega)
  have z : rd X 0 = X.getD 0 0 := rd_nat X 0
  have x0 := hX 0 (by omega)
  have x1 := hX (X.length - 1) (by omega)
  have mono := rise_le2 hr (i := 0) (j := X.length - 1) (by omega) (by omega)
  have w : wrap64 (wrap64 (X.getD (X.length - 1) 0 - X.getD 0 0) + 1) = X.getD (X.length - 1) 0 - X.getD 0 0 + 1 := by rw [w64 (x := X.getD (X.length - 1) 0 - X.getD 0 0) (by omega) (by omega), w64 (by omega) (by omega)]
  obtain ⟨m, hm, m1, m2⟩ : ∃ m, spec_l1Min.f (X.getD (X.length - 1) 0 - X.getD 0 0 + 1) 60000 = some m ∧ 1 ≤ m ∧ m ≤ X.getD (X.length - 1) 0 - X.getD 0 0 + 1 := by
    unfold spec_l1Min.f
    split
    · exact ⟨_, rfl, by omega, by omega⟩
    · exact ⟨_, rfl, by omega, by omega⟩
  obtain ⟨v, p', s', e2, v0, v1, _⟩ := below_eq hl hp s m1
  have w2 : wrap64 (X.getD 0 0 + v) = X.getD 0 0 + v := w64 (by omega) (by omega)
  refine ⟨X, Y, X.getD 0 0 + v, ev_succ ?_, ⟨hn, he, hr, hX, hY⟩, by omega, by omega⟩
  simp only [spec_DrawCurve.l0, e, rd_nat, z, w, hm, Option.bind_some, e2, w2]
  exact Ev.bind hb (ev_pos (by trivial) (ev_pos (by omega) (ev_pos (by omega) (ev_pos (by omega) (Ev.now _)))))
theorem goal_step {l : List Int} {pos s p' s' : Int} {X Y A B : List Int} (hlen : X.length ≤ 60 ∧ Y.length ≤ 60) (hP : ¬ CurveP X Y) (ha : Ev (fun k => spec_l1DrawCurve.f k l pos s) (A, B, p', s')) (g : Goal l p' s' A B) : Goal l pos s X Y := by
  obtain ⟨b, hb, ib⟩ := spec_curve_ev X Y (by omega)
  obtain rfl : b = false := by cases b with | true => exact absurd (ib.1 rfl) hP | false => rfl
  obtain ⟨X', Y', x, h, r⟩ := g
  refine ⟨X', Y', x, ev_succ ?_, r⟩
  simp only [spec_DrawCurve.l0]
  exact Ev.bind hb (ev_neg (by decide) (Ev.bind ha h))
theorem goal_near {l : List Int} (hl : l.length ≤ 1048576) {j : Nat} (hj : j ≤ 39) {X Y : List Int} (hlen : X.length ≤ 60 ∧ Y.length ≤ 60) : Goal l (l.length : Int) (lcgN j 242788) X Y := by
  have hp : At_ l (l.length : Int) := ⟨by omega, by omega⟩
  by_cases hP : CurveP X Y
  · exact goal_fin hl hp _ hP
  obtain ⟨A, B, p', i, h1, h2, h3, h4, h5, h6, h7⟩ := att_dr hl hp (lcgN j 242788)
  have e := h2.end_ rfl
  refine goal_step hlen hP h1 (goal_fin hl h2.1 _ (h7 rfl (fun m m1 m2 => ?_)))
  rw [← lcgN_add]
  exact good_at (by omega) (by omega)
theorem goal_far {l : List Int} (hl : l.length ≤ 1048576) : ∀ (n : Nat) (s : Int) (X Y : List Int), lcgN n s = 242788 → X.length ≤ 60 ∧ Y.length ≤ 60 → Goal l (l.length : Int) s X Y := by
  intro n
  induction n using Nat.strongRecOn with
  | _ n ih =>
    intro s X Y hn hlen
    have hp : At_ l (l.length : Int) := ⟨by omega, by omega⟩
    by_cases hP : CurveP X Y
    · exact goal_fin hl hp _ hP
    obtain ⟨A, B, p', j, h1, h2, h3, h4, h5, h6, h7⟩ := att_dr hl hp s
    have e := h2.end_ rfl
    subst e
    refine goal_step hlen hP h1 ?_
    by_cases c : j ≤ n
    · refine ih (n - j) (by omega) _ A B ?_ ⟨h5, h6⟩
      rw [← lcgN_add, show n - j + j = n by omega]
      exact hn
    · have k : lcgN j s = lcgN (j - n) 242788 := by
        rw [← hn, ← lcgN_add, show j - n + n = j by omega]
      rw [k]
      exact goal_near hl (by omega) ⟨h5, h6⟩
theorem goal_all {l : List Int} (hl : l.length ≤ 1048576) : ∀ (d : Nat) (pos s : Int) (X Y : List Int), (l.length : Int) - pos = d → At_ l pos → X.length ≤ 60 ∧ Y.length ≤ 60 → Goal l pos s X Y := by
  intro d
  induction d using Nat.strongRecOn with
  | _ d ih =>
    intro pos s X Y hd hp hlen
    by_cases hP : CurveP X Y
    · exact goal_fin hl hp _ hP
    obtain ⟨A, B, p', j, h1, h2, h3, h4, h5, h6, h7⟩ := att_dr hl hp s
    refine goal_step hlen hP h1 ?_
    by_cases c : p' = (l.length : Int)
    · subst c
      have norm : wrap64 (lcgN j s) = lcgN j s := by
        obtain ⟨i, rfl⟩ : ∃ i, j = i + 1 := ⟨j - 1, by omega⟩
        exact wrap_idem _
      obtain ⟨n, hn⟩ := lcg_reach norm (show wrap64 242788 = 242788 from w64 (by omega) (by omega))
      exact goal_far hl n _ A B hn ⟨h5, h6⟩
    · have k := h2.2.2.1
      have k2 := h2.2.2.2
      have hp' := h2.1
      have e : p' = pos + j := by
        by_cases c2 : pos + j ≤ (l.length : Int)
        · exact k c2
        · exact absurd (k2 (by omega)) c
      exact ih ((l.length : Int) - p').toNat (by have := hp'.2; omega) p' _ A B (by have := hp'.2; omega) hp' ⟨h5, h6⟩
theorem curve_draw (l : List Int) (hl : l.length ≤ 1048576) : ∃ (X Y : List Int) (x : Int), Ev (fun k => spec_DrawCurve.f k l) (X, Y, x) ∧ CurveP X Y ∧ X.getD 0 0 ≤ x ∧ x ≤ X.getD (X.length - 1) 0 := by
  obtain ⟨s0, h0⟩ := new_ev l hl
  have hp : At_ l 0 := ⟨by omega, by omega⟩
  obtain ⟨A, B, p', j, h1, h2, h3, h4, h5, h6, h7⟩ := att_dr hl hp s0
  obtain ⟨X, Y, x, g1, g2⟩ := goal_all hl ((l.length : Int) - p').toNat p' (lcgN j s0) A B (by have := h2.1.2; omega) h2.1 ⟨h5, h6⟩
  refine ⟨X, Y, x, ?_, g2⟩
  unfold spec_DrawCurve.f
  exact Ev.bind h0 (Ev.bind h1 g1)
/-! the curve's values -/
theorem piece_loop (X : List Int) (x : Int) (hx : X.length ≤ 1048576) : ∀ (d n : Nat), n + 2 + d = X.length → X.getD n 0 ≤ x → ∃ r : Nat, r + 1 < X.length ∧ X.getD r 0 ≤ x ∧ (r + 2 = X.length ∨ x < X.getD (r + 1) 0) ∧ Ev (fun k => impl_piece.l0 k X x (n : Int)) (r : Int) := by
  intro d
  induction d with
  | zero =>
    intro n hn h0
    have e : wrap64 ((n : Int) + 2) = (n : Int) + 2 := w64 (by omega) (by omega)
    refine ⟨n, by omega, h0, Or.inl (by omega), ev_succ ?_⟩
    simp only [impl_piece.l0, e]
    exact ev_neg (by omega) (Ev.now _)
  | succ d ih =>
    intro n hn h0
    have e : wrap64 ((n : Int) + 2) = (n : Int) + 2 := w64 (by omega) (by omega)
    have e1 := w64_succ (m := X.length) (n := n) (by omega) (by omega)
    by_cases h : X.getD (n + 1) 0 ≤ x
    · obtain ⟨r, r0, r1, r2, r3⟩ := ih (n + 1) (by omega) h
      refine ⟨r, r0, r1, r2, ev_succ ?_⟩
      simp only [impl_piece.l0, e, e1, rd_nat]
      exact ev_pos (by omega) (ev_pos (by omega) (ev_pos (by omega) (ev_pos h r3)))
    · refine ⟨n, by omega, h0, Or.inr (by omega), ev_succ ?_⟩
      simp only [impl_piece.l0, e, e1, rd_nat]
      exact ev_pos (by omega) (ev_pos (by omega) (ev_pos (by omega) (ev_neg h (Ev.now _))))
theorem val_bd {X Y : List Int} (hP : CurveP X Y) {i : Nat} (h : i + 1 < X.length) {x : Int} (h0 : X.getD i 0 ≤ x) (h1 : x ≤ X.getD (i + 1) 0) : -9000000000000 ≤ val X Y i x ∧ val X Y i x ≤ 9000000000000 := by
  obtain ⟨x0, x1, y0, y1, d⟩ := curve_at hP h
  have m1 := mul_bd 100000 200000 y0 (b := dX X i) (by omega)
  have m2 := mul_bd 200000 200000 (a := Y.getD (i + 1) 0 - Y.getD i 0) (b := x - X.getD i 0) (by omega) (by omega)
  unfold val
  omega
theorem at_val {X Y : List Int} (hP : CurveP X Y) {x : Int} (h0 : X.getD 0 0 ≤ x) (h1 : x ≤ X.getD (X.length - 1) 0) : ∃ (p : Nat) (r : Int × Int), p + 1 < X.length ∧ X.getD p 0 ≤ x ∧ x ≤ X.getD (p + 1) 0 ∧ (p + 2 = X.length ∨ x < X.getD (p + 1) 0) ∧ Ev (fun k => impl_frac.f k (val X Y p x) (dX X p)) r ∧ Ev (fun k => impl_At.f k X Y x) (r.1, r.2, true) := by
  obtain ⟨b, hb, ib⟩ := impl_curve_ev X Y (by have := hP.1; have := hP.2.1; omega)
  obtain rfl : b = true := ib.2 hP
  have hl := hP.1
  have he := hP.2.1
  obtain ⟨p, p1, p2, p3, p4⟩ := piece_loop X x (by omega) (X.length - 2) 0 (by omega) h0
  have k0 : (0 : Int) ≤ (p : Int) := Int.natCast_nonneg _
  have k2 : (0 : Int) ≤ ((p + 1 : Nat) : Int) := Int.natCast_nonneg _
  have k3 : ((p + 1 : Nat) : Int) < (X.length : Int) := Int.ofNat_lt.mpr p1
  have k1 : (p : Int) < (X.length : Int) := Int.ofNat_lt.mpr (Nat.lt_of_succ_lt p1)
  have k4 : (p : Int) < (Y.length : Int) := by rw [← he]; exact k1
  have k5 : ((p + 1 : Nat) : Int) < (Y.length : Int) := by rw [← he]; exact k3
  have p5 : x ≤ X.getD (p + 1) 0 := by
    rcases p3 with p3 | p3
    · rw [show X.length - 1 = p + 1 by omega] at h1
      exact h1
    · omega
  obtain ⟨x0, x1, y0, y1, d⟩ := curve_at hP p1
  have vb := val_bd hP p1 p2 p5
  obtain ⟨r, fr⟩ : ∃ r, Ev (fun k => impl_frac.f k (val X Y p x) (dX X p)) r := ⟨_, frac_ev (n := val X Y p x) (d := dX X p) (by omega) (by omega)⟩
  refine ⟨p, r, p1, p2, p5, p3, fr, ?_⟩
  have e := last_nat (T := X) (by omega) (by omega)
  have z : rd X 0 = X.getD 0 0 := rd_nat X 0
  have e1 := w64_succ (m := X.length) (n := p) (by omega) (by omega)
  have hp4 : Ev (fun k => impl_piece.f k X x) (p : Int) := p4
  unfold impl_At.f
  simp only [e, rd_nat, z, impl_in_eq, Option.bind_some, decide_eq_true (show X.getD 0 0 ≤ x ∧ x ≤ X.getD (X.length - 1) 0 from ⟨h0, h1⟩)]
  refine Ev.bind hb (ev_pos (by trivial) (ev_pos (by omega) (ev_pos (by omega) (ev_pos (by omega) (ev_succ ?_)))))
  simp only [impl_At.j0]
  refine ev_neg (by decide) (Ev.bind hp4 ?_)
  simp only [e1, rd_nat, between_eq hP p1 p2 p5, Option.bind_some]
  exact ev_pos k0 (ev_pos k1 (ev_pos k2 (ev_pos k3 (ev_pos k4 (ev_pos k5 (Ev.bind fr (Ev.now _)))))))
theorem at_out {X Y : List Int} (hP : CurveP X Y) {x : Int} (h : x < X.getD 0 0) : Ev (fun k => impl_At.f k X Y x) (0, 0, false) := by
  obtain ⟨b, hb, ib⟩ := impl_curve_ev X Y (by have := hP.1; have := hP.2.1; omega)
  obtain rfl : b = true := ib.2 hP
  have hl := hP.1
  have e := last_nat (T := X) (by omega) (by omega)
  have z : rd X 0 = X.getD 0 0 := rd_nat X 0
  unfold impl_At.f
  simp only [e, rd_nat, z, impl_in_eq, Option.bind_some, decide_eq_false (show ¬ (X.getD 0 0 ≤ x ∧ x ≤ X.getD (X.length - 1) 0) by omega)]
  refine Ev.bind hb (ev_pos (by trivial) (ev_pos (by omega) (ev_pos (by omega) (ev_pos (by omega) (ev_succ ?_)))))
  simp only [impl_At.j0]
  exact ev_pos (by trivial) (Ev.now _)
theorem at_piece {X Y : List Int} (hP : CurveP X Y) {i : Nat} (hi : i + 1 < X.length) {x : Int} (h0 : X.getD i 0 ≤ x) (h1 : x < X.getD (i + 1) 0) : ∃ r : Int × Int, Ev (fun k => impl_frac.f k (val X Y i x) (dX X i)) r ∧ Ev (fun k => impl_At.f k X Y x) (r.1, r.2, true) := by
  have hr := hP.2.2.1
  have a := rise_le2 hr (i := 0) (j := i) (by omega) (by omega)
  have b := rise_le2 hr (i := i + 1) (j := X.length - 1) (by omega) (by omega)
  obtain ⟨p, r, p1, p2, p3, p4, p5, p6⟩ := at_val hP (x := x) (by omega) (by omega)
  have e : p = i := by
    rcases Nat.lt_trichotomy p i with h | h | h
    · have := rise_le2 hr (i := p + 1) (j := i) (by omega) (by omega)
      omega
    · exact h
    · have := rise_le2 hr (i := i + 1) (j := p) (by omega) (by omega)
      omega
  subst e
  exact ⟨r, p5, p6⟩
theorem val_left (X Y : List Int) (i : Nat) : val X Y i (X.getD i 0) = Y.getD i 0 * dX X i := by
  unfold val
  rw [Int.sub_self, Int.mul_zero, Int.add_zero]
theorem val_right (X Y : List Int) (i : Nat) : val X Y i (X.getD (i + 1) 0) = Y.getD (i + 1) 0 * dX X i := by
  unfold val dX
  grind
theorem at_knot {X Y : List Int} (hP : CurveP X Y) {m : Nat} (hm : m < X.length) : Ev (fun k => impl_At.f k X Y (X.getD m 0)) (Y.getD m 0, 1, true) := by
  have hr := hP.2.2.1
  have hl := hP.1
  by_cases c : m + 1 < X.length
  · obtain ⟨r, f, h⟩ := at_piece hP c (x := X.getD m 0) (Int.le_refl _) (hr m c)
    obtain ⟨x0, x1, y0, y1, d⟩ := curve_at hP c
    rw [val_left] at f
    have g := frac_mul (z := Y.getD m 0) (d := dX X m) (by omega) (by omega)
    have e := ev_one f g
    subst e
    exact h
  · have a := rise_le2 hr (i := 0) (j := m) (by omega) (by omega)
    have e0 : X.length - 1 = m := by omega
    obtain ⟨p, r, p1, p2, p3, p4, p5, p6⟩ := at_val hP (x := X.getD m 0) a (by rw [e0]; omega)
    have b := rise_le2 hr (i := p + 1) (j := m) (by omega) (by omega)
    have e1 : p + 1 = m := by omega
    subst e1
    obtain ⟨x0, x1, y0, y1, d⟩ := curve_at hP p1
    rw [val_right] at p5
    have g := frac_mul (z := Y.getD (p + 1) 0) (d := dX X p) (by omega) (by omega)
    have e := ev_one p5 g
    subst e
    exact p6
theorem frac_facts {n d : Int} (hn : -9000000000000 ≤ n ∧ n ≤ 9000000000000) (hd : 1 ≤ d ∧ d ≤ 200000) {r : Int × Int} (h : Ev (fun k => impl_frac.f k n d) r) : ∃ g : Int, 1 ≤ g ∧ n = r.1 * g ∧ d = r.2 * g ∧ 1 ≤ r.2 ∧ r.2 ≤ 200000 := by
  have f := frac_ev (n := n) (d := d) (by omega) (by omega)
  have e := ev_one h f
  subst e
  have hg : Nat.gcd n.natAbs d.natAbs ≠ 0 := by
    intro h
    have := Nat.eq_zero_of_gcd_eq_zero_right h
    omega
  have dn : ((Nat.gcd n.natAbs d.natAbs : Nat) : Int) ∣ n := Int.ofNat_dvd_left.mpr (Nat.gcd_dvd_left _ _)
  have dd : ((Nat.gcd n.natAbs d.natAbs : Nat) : Int) ∣ d := Int.ofNat_dvd_left.mpr (Nat.gcd_dvd_right _ _)
  generalize Nat.gcd n.natAbs d.natAbs = g at *
  obtain ⟨a, rfl⟩ := dn
  obtain ⟨b, rfl⟩ := dd
  have g1 : (1 : Int) ≤ (g : Int) := by omega
  have g0 : (g : Int) ≠ 0 := by omega
  rw [Int.mul_tdiv_cancel_left _ g0, Int.mul_tdiv_cancel_left _ g0]
  have b1 : 1 ≤ b := by
    by_cases c : b ≤ 0
    · have := Int.mul_le_mul_of_nonneg_left c (show (0 : Int) ≤ g by omega)
      omega
    · omega
  have b2 : b ≤ (g : Int) * b := by
    have := Int.mul_le_mul_of_nonneg_right g1 (show 0 ≤ b by omega)
    omega
  have a1 : a ≤ 9000000000000 := by
    by_cases c : a ≤ 0
    · omega
    · have := Int.mul_le_mul_of_nonneg_right g1 (show 0 ≤ a by omega)
      omega
  have a2 : -9000000000000 ≤ a := by
    by_cases c : 0 ≤ a
    · omega
    · have := Int.mul_le_mul_of_nonneg_right g1 (show 0 ≤ -a by omega)
      have e : (g : Int) * -a = -((g : Int) * a) := Int.mul_neg ..
      omega
  rw [w64 (x := a) (by omega) (by omega), w64 (x := b) (by omega) (by omega)]
  exact ⟨g, g1, Int.mul_comm _ _, Int.mul_comm _ _, b1, by omega⟩
/-- what is said of the value may be said of the reduced fraction -/
theorem frac_ge {n d : Int} {r : Int × Int} {g : Int} (g1 : 1 ≤ g) (hn : n = r.1 * g) (hd : d = r.2 * g) (v : Int) : v * d ≤ n ↔ v * r.2 ≤ r.1 := by
  subst hn hd
  rw [← Int.mul_assoc]
  constructor
  · intro h
    exact Int.le_of_mul_le_mul_right h (by omega)
  · intro h
    exact Int.mul_le_mul_of_nonneg_right h (by omega)
theorem frac_le {n d : Int} {r : Int × Int} {g : Int} (g1 : 1 ≤ g) (hn : n = r.1 * g) (hd : d = r.2 * g) (v : Int) : n ≤ v * d ↔ r.1 ≤ v * r.2 := by
  subst hn hd
  rw [← Int.mul_assoc]
  constructor
  · intro h
    exact Int.le_of_mul_le_mul_right h (by omega)
  · intro h
    exact Int.mul_le_mul_of_nonneg_right h (by omega)
/-- the value of a place between two neighbouring knots -/
theorem at_seg {X Y : List Int} (hP : CurveP X Y) {i : Nat} (hi : i + 1 < X.length) {x : Int} (h0 : X.getD i 0 ≤ x) (h1 : x ≤ X.getD (i + 1) 0) : ∃ a b : Int, Ev (fun k => impl_At.f k X Y x) (a, b, true) ∧ 1 ≤ b ∧ b ≤ 200000 ∧ (∀ v, v * dX X i ≤ val X Y i x ↔ v * b ≤ a) ∧ (∀ v, val X Y i x ≤ v * dX X i ↔ a ≤ v * b) := by
  obtain ⟨x0, x1, y0, y1, d⟩ := curve_at hP hi
  by_cases c : x < X.getD (i + 1) 0
  · obtain ⟨r, f, h⟩ := at_piece hP hi h0 c
    obtain ⟨g, g1, e1, e2, b1, b2⟩ := frac_facts (val_bd hP hi h0 h1) d f
    exact ⟨r.1, r.2, h, b1, b2, fun v => frac_ge g1 e1 e2 v, fun v => frac_le g1 e1 e2 v⟩
  · have e : x = X.getD (i + 1) 0 := by omega
    subst e
    have e1 : val X Y i (X.getD (i + 1) 0) = (Y.getD (i + 1) 0, (1 : Int)).1 * dX X i := val_right X Y i
    have e2 : dX X i = (Y.getD (i + 1) 0, (1 : Int)).2 * dX X i := (Int.one_mul _).symm
    exact ⟨Y.getD (i + 1) 0, 1, at_knot hP hi, by omega, by omega, fun v => frac_ge d.1 e1 e2 v, fun v => frac_le d.1 e1 e2 v⟩
theorem seg_between {X Y : List Int} {i : Nat} {x low high : Int} (hd : 1 ≤ dX X i) (h0 : X.getD i 0 ≤ x) (h1 : x ≤ X.getD (i + 1) 0) (a0 : low ≤ Y.getD i 0) (a1 : low ≤ Y.getD (i + 1) 0) (b0 : Y.getD i 0 ≤ high) (b1 : Y.getD (i + 1) 0 ≤ high) : low * dX X i ≤ val X Y i x ∧ val X Y i x ≤ high * dX X i := by
  have t0 : 0 ≤ x - X.getD i 0 := by omega
  have t1 : 0 ≤ dX X i - (x - X.getD i 0) := by unfold dX; omega
  have p := Int.mul_nonneg (show 0 ≤ Y.getD i 0 - low by omega) t1
  have q := Int.mul_nonneg (show 0 ≤ Y.getD (i + 1) 0 - low by omega) t0
  have r := Int.mul_nonneg (show 0 ≤ high - Y.getD i 0 by omega) t1
  have s := Int.mul_nonneg (show 0 ≤ high - Y.getD (i + 1) 0 by omega) t0
  unfold val
  generalize x - X.getD i 0 = t at *
  generalize dX X i = d at *
  generalize Y.getD i 0 = u at *
  generalize Y.getD (i + 1) 0 = w at *
  constructor
  · have : u * d + (w - u) * t - low * d = (u - low) * (d - t) + (w - low) * t := by grind
    omega
  · have : high * d - (u * d + (w - u) * t) = (high - u) * (d - t) + (high - w) * t := by grind
    omega
theorem find_first {X Y : List Int} (hP : CurveP X Y) {v : Int} (hv : -100000 ≤ v ∧ v ≤ 100000) : ∀ (d i : Nat), i + 1 + d = X.length → Y.getD i 0 < v → (∃ m, i ≤ m ∧ m < X.length ∧ v ≤ Y.getD m 0) → ∃ p, p + 1 < X.length ∧ Y.getD p 0 < v ∧ v ≤ Y.getD (p + 1) 0 ∧ Ev (fun k => impl_Find.l0 k v ((X.length - 1 : Nat) : Int) (i : Int) X Y) (X.getD p 0 + ce X Y p v, true) := by
  intro d
  induction d with
  | zero =>
    intro i hi ha ⟨m, m0, m1, m2⟩
    have : m = i := by omega
    subst this
    omega
  | succ d ih =>
    intro i hi ha ⟨m, m0, m1, m2⟩
    have h : i + 1 < X.length := by omega
    obtain ⟨x0, x1, y0, y1, dd⟩ := curve_at hP h
    have start : ∀ {R : Int × Bool}, Ev (fun k => impl_Find.l1 k v (i : Int) (X.getD i 0) ((X.length - 1 : Nat) : Int) (i : Int) X Y) R → Ev (fun k => impl_Find.l0 k v ((X.length - 1 : Nat) : Int) (i : Int) X Y) R := by
      intro R hR
      refine ev_succ ?_
      simp only [impl_Find.l0, rd_nat]
      exact ev_pos (by omega) (ev_pos (by omega) (ev_pos (by omega) hR))
    by_cases c : Y.getD (i + 1) 0 < v
    · obtain ⟨p, p1, p2, p3, p4⟩ := ih (i + 1) (by omega) c ⟨m, by
        by_cases e : m = i
        · subst e; omega
        · omega, m1, m2⟩
      refine ⟨p, p1, p2, p3, start ?_⟩
      exact scan_none hP h hv ha c p4 (X.getD (i + 1) 0 + 1 - X.getD i 0).toNat (X.getD i 0) (Int.le_refl _) (by unfold dX at dd; omega)
    · obtain ⟨f1, f2, f3⟩ := seg_facts hP h ha (show v ≤ Y.getD (i + 1) 0 by omega)
      refine ⟨i, h, ha, by omega, start ?_⟩
      have := scan_hit hP h hv ha (by omega) (ce X Y i v).toNat 0 (Int.le_refl _) (by omega)
      rw [Int.add_zero] at this
      exact this
/-- Find of one of the curve's own heights: it is there, and one place below it is too low, or nothing. -/
theorem find_own {X Y : List Int} (hP : CurveP X Y) {m : Nat} (hm : m < X.length) : ∃ (x a b a' b' : Int) (ok : Bool), Ev (fun k => impl_Find.f k X Y (Y.getD m 0)) (x, true) ∧ Ev (fun k => impl_At.f k X Y x) (a, b, true) ∧ Ev (fun k => impl_At.f k X Y (wrap64 (x - 1))) (a', b', ok) ∧ 1 ≤ b ∧ b ≤ 200000 ∧ Y.getD m 0 * b ≤ a ∧ (ok = true → 1 ≤ b' ∧ b' ≤ 200000 ∧ a' < Y.getD m 0 * b') := by
  have hl := hP.1
  have he := hP.2.1
  have hv := hP.2.2.2.2 m (by omega)
  obtain ⟨b, hb, ib⟩ := impl_curve_ev X Y (by omega)
  obtain rfl : b = true := ib.2 hP
  have ev : mx (Y.getD m 0) (-100000) = Y.getD m 0 := by
    unfold mx
    split <;> omega
  have go : ∀ {R : Int × Bool}, Ev (fun k => impl_Find.l0 k (Y.getD m 0) ((X.length - 1 : Nat) : Int) 0 X Y) R → Ev (fun k => impl_Find.f k X Y (Y.getD m 0)) R := by
    intro R hR
    unfold impl_Find.f
    rw [decide_eq_false (show ¬ Y.getD m 0 > 100000 by omega)]
    refine Ev.bind hb (ev_pos (by trivial) (ev_succ ?_))
    simp only [impl_Find.j0, ev]
    rw [last_nat (T := X) (by omega) (by omega)]
    exact ev_neg (by decide) hR
  obtain ⟨x0, x1, y0, y1, d⟩ := curve_at hP (i := 0) (by omega)
  by_cases c : Y.getD 0 0 < Y.getD m 0
  · obtain ⟨p, p1, p2, p3, p4⟩ := find_first hP hv (X.length - 1) 0 (by omega) c ⟨m, by omega, hm, Int.le_refl _⟩
    obtain ⟨f1, f2, f3⟩ := seg_facts hP p1 p2 p3
    obtain ⟨u0, u1, w0, w1, dp⟩ := curve_at hP p1
    have f2' : X.getD p 0 + ce X Y p (Y.getD m 0) ≤ X.getD (p + 1) 0 := by
      unfold dX at f2
      omega
    have w : wrap64 (X.getD p 0 + ce X Y p (Y.getD m 0) - 1) = X.getD p 0 + (ce X Y p (Y.getD m 0) - 1) := by
      rw [w64 (by omega) (by omega)]
      omega
    obtain ⟨a, b, a1, a2, a3, a4, _⟩ := at_seg hP p1 (x := X.getD p 0 + ce X Y p (Y.getD m 0)) (by omega) f2'
    obtain ⟨a', b', b1, b2, b3, b4, _⟩ := at_seg hP p1 (x := X.getD p 0 + (ce X Y p (Y.getD m 0) - 1)) (by omega) (by omega)
    refine ⟨_, a, b, a', b', true, go p4, a1, by rw [w]; exact b1, a2, a3, (a4 _).mp ((f3 _).mpr (Int.le_refl _)), fun _ => ⟨b2, b3, ?_⟩⟩
    by_cases g : Y.getD m 0 * b' ≤ a'
    · have := (f3 _).mp ((b4 _).mpr g)
      omega
    · omega
  · have z : rd X 0 = X.getD 0 0 := rd_nat X 0
    have hm0 := Int.mul_le_mul_of_nonneg_right (show Y.getD m 0 ≤ Y.getD 0 0 by omega) (show 0 ≤ dX X 0 by omega)
    have w : wrap64 (X.getD 0 0 - 1) = X.getD 0 0 - 1 := w64 (by omega) (by omega)
    refine ⟨X.getD 0 0, Y.getD 0 0, 1, 0, 0, false, go (ev_succ ?_), at_knot hP (by omega), by rw [w]; exact at_out hP (by omega), by omega, by omega, by omega, fun h => by cases h⟩
    simp only [impl_Find.l0, z]
    refine ev_pos (by omega) (ev_pos (by omega) (ev_pos (by omega) ?_))
    refine scan_step hP (i := 0) (by omega) hv (Int.le_refl _) (by unfold dX at d; omega) ?_
    rw [val_left, if_pos hm0]
theorem held_low {X Y : List Int} (hP : CurveP X Y) : Ev (fun k => impl_Held.f k X Y (X.getD 0 0 - 5)) (Y.getD 0 0, 1, true) := by
  obtain ⟨b, hb, ib⟩ := impl_curve_ev X Y (by have := hP.1; have := hP.2.1; omega)
  obtain rfl : b = true := ib.2 hP
  have hl := hP.1
  have e := last_nat (T := X) (by omega) (by omega)
  have z : rd X 0 = X.getD 0 0 := rd_nat X 0
  have mono := rise_le2 hP.2.2.1 (i := 0) (j := X.length - 1) (by omega) (by omega)
  have m : mx (mn (X.getD 0 0 - 5) (X.getD (X.length - 1) 0)) (X.getD 0 0) = X.getD 0 0 := by
    unfold mx mn
    split <;> split <;> omega
  have k := at_knot hP (m := 0) (by omega)
  unfold impl_Held.f
  simp only [e, rd_nat, z, impl_held.f, Option.bind_some, m]
  exact Ev.bind hb (ev_pos (by trivial) (ev_pos (by omega) (ev_pos (by omega) (ev_pos (by omega) (Ev.bind k (Ev.now _))))))
theorem prod_eq {v b : Int} (hv : -100000 ≤ v ∧ v ≤ 100000) (hb : 1 ≤ b ∧ b ≤ 200000) : wrap64 (v * b) = v * b := by
  have m := mul_bd 100000 200000 hv (b := b) (by omega)
  exact w64 (by omega) (by omega)
theorem tail_ok {X Y : List Int} (hP : CurveP X Y) : Ev (fun k => laws_FnTables.j6 k false X Y) true := by
  have hl := hP.1
  have he := hP.2.1
  have hm : Y.length / 2 < X.length := by omega
  have w : wrap64 ((Y.length : Int) / 2) = ((Y.length / 2 : Nat) : Int) := by
    rw [w64 (by omega) (by omega)]
    omega
  have yb := hP.2.2.2.2 (Y.length / 2) (by omega)
  obtain ⟨x, a, b, a', b', ok, h1, h2, h3, h4, h5, h6, h7⟩ := find_own hP hm
  have k1 : ((Y.length / 2 : Nat) : Int) < (Y.length : Int) := by omega
  have k0 : (0 : Int) ≤ ((Y.length / 2 : Nat) : Int) := Int.natCast_nonneg _
  have p1 := prod_eq yb ⟨h4, h5⟩
  refine ev_succ ?_
  simp only [laws_FnTables.j6, w, rd_nat]
  refine ev_neg (by decide) (ev_pos k0 (ev_pos k1 (Ev.bind h1 (ev_pos (by trivial) (Ev.bind h2 (Ev.bind h3 ?_))))))
  refine ev_pos (by show a ≥ wrap64 (Y.getD (Y.length / 2) 0 * b); rw [p1]; exact h6) ?_
  cases ok with
  | false => exact ev_neg (by show ¬ (false = true); decide) (Ev.now _)
  | true =>
    obtain ⟨b1, b2, b3⟩ := h7 rfl
    have p2 := prod_eq yb ⟨b1, b2⟩
    refine ev_pos (by trivial) ?_
    show Ev (fun _ => some (decide (a' < wrap64 (Y.getD (Y.length / 2) 0 * b')))) true
    rw [p2, decide_eq_true b3]
    exact Ev.now _
theorem knots_ok {X Y : List Int} (hP : CurveP X Y) {x a b : Int} (ha : Ev (fun k => impl_At.f k X Y x) (a, b, true)) (hb : 1 ≤ b ∧ b ≤ 200000) : ∀ (d n : Nat), n + d = X.length → Ev (fun k => laws_FnTables.l0 k x (n : Int) X Y a b) true := by
  have hl := hP.1
  have he := hP.2.1
  intro d
  induction d with
  | zero =>
    intro n hn
    have z : rd X 0 = X.getD 0 0 := rd_nat X 0
    have z' : rd Y 0 = Y.getD 0 0 := rd_nat Y 0
    have x0 := hP.2.2.2.1 0 (by omega)
    have w : wrap64 (X.getD 0 0 - 5) = X.getD 0 0 - 5 := w64 (by omega) (by omega)
    refine ev_succ ?_
    simp only [laws_FnTables.l0, z, z', w]
    exact ev_neg (by omega) (ev_pos (by omega) (Ev.bind (held_low hP) (ev_pos (by omega) (ev_pos (by trivial) (tail_ok hP)))))
  | succ d ih =>
    intro n hn
    have hlt : n < X.length := by omega
    have k0 : (0 : Int) ≤ (n : Int) := Int.natCast_nonneg _
    have k1 : (n : Int) < (X.length : Int) := Int.ofNat_lt.mpr hlt
    have k2 : (n : Int) < (Y.length : Int) := by rw [← he]; exact k1
    have e1 := w64_succ (m := X.length) (n := n) hlt (by omega)
    have next := ih (n + 1) (by omega)
    have off : Ev (fun k => laws_FnTables.j3 k x (n : Int) false X Y a b) true := by
      refine ev_succ ?_
      simp only [laws_FnTables.j3, e1]
      exact ev_neg (by decide) next
    have five : Ev (fun k => laws_FnTables.j5 k x (n : Int) false X Y a b) true := by
      refine ev_succ ?_
      simp only [laws_FnTables.j5, e1]
      exact ev_neg (by decide) next
    have two : Ev (fun k => laws_FnTables.j2 k x (n : Int) false X Y a b) true := by
      refine ev_succ ?_
      simp only [laws_FnTables.j2]
      refine ev_neg (by decide) ?_
      cases n with
      | zero => exact ev_neg (by decide) off
      | succ i =>
        have w : wrap64 (((i + 1 : Nat) : Int) - 1) = (i : Int) := by
          rw [w64 (by omega) (by omega)]
          omega
        have i0 : (0 : Int) ≤ (i : Int) := Int.natCast_nonneg _
        have i1 : (i : Int) < (X.length : Int) := Int.ofNat_lt.mpr (Nat.lt_of_succ_lt hlt)
        have i2 : (i : Int) < (Y.length : Int) := by rw [← he]; exact i1
        simp only [w, rd_nat]
        refine ev_pos (by omega) (ev_pos i0 (ev_pos i1 ?_))
        by_cases c : X.getD i 0 ≤ x
        · refine ev_pos c (ev_pos k0 (ev_pos k1 ?_))
          by_cases c2 : x ≤ X.getD (i + 1) 0
          · rw [decide_eq_true c2]
            obtain ⟨x0, x1, y0, y1, dd⟩ := curve_at hP hlt
            obtain ⟨a', b', h1, _, _, h4, h5⟩ := at_seg hP hlt c c2
            have same := ev_one ha h1
            simp only [Prod.mk.injEq, and_true] at same
            obtain ⟨rfl, rfl⟩ := same
            have four : ∀ low high : Int, (-100000 ≤ low ∧ low ≤ 100000) → (-100000 ≤ high ∧ high ≤ 100000) → low ≤ Y.getD i 0 → low ≤ Y.getD (i + 1) 0 → Y.getD i 0 ≤ high → Y.getD (i + 1) 0 ≤ high → Ev (fun k => laws_FnTables.j4 k x ((i + 1 : Nat) : Int) low high X Y a b) true := by
              intro low high l0 l1 g1 g2 g3 g4
              obtain ⟨s1, s2⟩ := seg_between dd.1 c c2 g1 g2 g3 g4
              have t1 := (h4 low).mp s1
              have t2 := (h5 high).mp s2
              have q1 := prod_eq l0 hb
              have q2 := prod_eq l1 hb
              refine ev_succ ?_
              simp only [laws_FnTables.j4, q1, q2]
              rw [decide_eq_false (show ¬ a > high * b by omega)]
              exact ev_neg (by omega) five
            refine ev_succ ?_
            simp only [laws_FnTables.j3, w, rd_nat]
            refine ev_pos (by trivial) (ev_pos i0 (ev_pos i2 (ev_pos k0 (ev_pos k2 ?_))))
            by_cases c3 : Y.getD i 0 > Y.getD (i + 1) 0
            · exact ev_pos c3 (four _ _ y1 y0 (by omega) (by omega) (by omega) (by omega))
            · exact ev_neg c3 (four _ _ y0 y1 (by omega) (by omega) (by omega) (by omega))
          · rw [decide_eq_false c2]
            exact off
        · exact ev_neg c off
    refine ev_succ ?_
    simp only [laws_FnTables.l0, rd_nat]
    refine ev_pos k1 (ev_pos k0 (Ev.bind (at_knot hP hlt) (ev_pos (by trivial) (ev_pos (by trivial) (ev_pos k2 ?_)))))
    show Ev (fun k => laws_FnTables.j2 k x (n : Int) (Y.getD n 0 != Y.getD n 0) X Y a b) true
    rw [bne_self_eq_false]
    exact two
theorem FnTables : laws_FnTables.PureR := by
  intro l ⟨_, hu⟩
  refine Ev.rounds ?_
  unfold laws_FnTables.f
  by_cases hL : l.length ≤ 1048576
  rotate_left
  · rw [big_big hL]
    exact Ev.now _
  rw [big_ev hL]
  simp only [Option.bind_some]
  refine ev_neg (by decide) ?_
  obtain ⟨X, Y, x, hd, hP, h0, h1⟩ := curve_draw l hL
  obtain ⟨b, hb, ib⟩ := impl_curve_ev X Y (by have := hP.1; have := hP.2.1; omega)
  obtain rfl : b = true := ib.2 hP
  obtain ⟨p, _, p1, p2, p3, _⟩ := at_val hP h0 h1
  obtain ⟨a, b, h2, b1, b2, _, _⟩ := at_seg hP p1 p2 p3
  refine Ev.bind hd (Ev.bind h2 (ev_pos (by trivial) (Ev.bind hb (ev_pos (by trivial) (ev_succ ?_)))))
  simp only [laws_FnTables.j0]
  refine ev_neg (by simp; omega) ?_
  exact knots_ok hP h2 ⟨b1, b2⟩ X.length 0 (by omega)

end Go.Proofs.Ytnphbpkpjinddaa.Pure
