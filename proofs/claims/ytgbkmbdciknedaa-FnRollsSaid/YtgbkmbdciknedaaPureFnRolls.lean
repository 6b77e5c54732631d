/- Proved here: on a drawn runner: the later the engine fails, the sooner the runner lifts and the longer it needs to stop; no condition. -/
import Derived.Test.YtgbkmbdciknedaaPureDefFnRolls
namespace Go.Proofs.Ytgbkmbdciknedaa.Pure
open Go.RowKit Go.Proofs.Ytgbkmbdciknedaa.QFnRolls Go.Proofs.YtgbkmbdciknedaaW.PrintWords Go.Proofs.YtgbkmbdciknedaaW.PrintLast Go.Proofs.YtgbkmbdciknedaaW.PrintMore
set_option linter.unusedVariables false
set_option linter.unusedSimpArgs false

theorem ev_pos {c : Prop} [Decidable c] {α : Type} {A B : Nat → Option α} {r : α} (h : c) (k : Ev A r) : Ev (fun n => if c then A n else B n) r := by
  simpa only [if_pos h] using k
theorem ev_neg {c : Prop} [Decidable c] {α : Type} {A B : Nat → Option α} {r : α} (h : ¬ c) (k : Ev B r) : Ev (fun n => if c then A n else B n) r := by
  simpa only [if_neg h] using k
theorem ev_succ {α : Type} {g : Nat → Option α} {r : α} (h : Ev (fun k => g (k + 1)) r) : Ev g r := Ev.step (fun _ => rfl) h
theorem ex_succ {α : Type} {g : Nat → Option α} (h : ∃ r, Ev (fun k => g (k + 1)) r) : ∃ r, Ev g r := by
  obtain ⟨r, h⟩ := h
  exact ⟨r, ev_succ h⟩
theorem ev_one {α : Type} {g : Nat → Option α} {r q : α} (h : Ev g r) (h' : Ev g q) : r = q := by
  obtain ⟨K, hK⟩ := h
  obtain ⟨L, hL⟩ := h'
  have a := hK (max K L) (Nat.le_max_left _ _)
  have b := hL (max K L) (Nat.le_max_right _ _)
  exact Option.some.inj (a.symm.trans b)
theorem ev_bool {α : Type} {A B : Nat → Option α} {r : α} (b : Bool) (h1 : b = true → Ev A r) (h2 : b = false → Ev B r) : Ev (fun n => if b = true then A n else B n) r := by
  cases b with
  | true => exact ev_pos (by trivial) (h1 rfl)
  | false => exact ev_neg (by decide) (h2 rfl)
theorem bool_eq_of_iff {a b : Bool} {p : Prop} (h : a = true ↔ p) (h' : b = true ↔ p) : a = b := by
  rw [Bool.eq_iff_iff]
  exact h.trans h'.symm
theorem w64 {x : Int} (h0 : -9223372036854775808 ≤ x) (h1 : x ≤ 9223372036854775807) : wrap64 x = x := by
  unfold wrap64
  omega
theorem w64_succ {n m : Nat} (h : n < m) (hm : m ≤ 9223372036854775807) : wrap64 ((n : Int) + 1) = ((n + 1 : Nat) : Int) := by
  unfold wrap64
  omega
theorem rd_nat (l : List Int) (n : Nat) : rd l (n : Int) = l.getD n 0 := by
  unfold rd
  rw [Int.toNat_natCast]
theorem take_set_succ {α : Type} (d : α) {x0 x3 : List α} {n : Nat} (h : n < x0.length) (hl : x3.length = x0.length) (ht : x3.take n = x0.take n) : (x3.set n (x0.getD n d)).take (n + 1) = x0.take (n + 1) := by
  apply List.ext_getElem?
  intro i
  simp only [List.getElem?_take, List.getElem?_set]
  by_cases hi : i < n + 1
  · rw [if_pos hi, if_pos hi]
    by_cases he : n = i
    · subst he
      rw [if_pos rfl, if_pos (by omega), List.getD_eq_getElem?_getD, List.getElem?_eq_getElem h]
      rfl
    · rw [if_neg he]
      have := congrArg (fun l => l[i]?) ht
      simpa only [List.getElem?_take, if_pos (show i < n by omega)] using this
  · rw [if_neg hi, if_neg hi]
theorem u8_bounds {l : List Int} (h : ∀ x ∈ l, 0 ≤ x ∧ x ≤ 255) (n : Nat) : 0 ≤ l.getD n 0 ∧ l.getD n 0 ≤ 255 := by
  rw [List.getD_eq_getElem?_getD]
  cases e : l[n]? with
  | none => simp
  | some x =>
    exact h x (List.mem_of_getElem? e)
theorem getD_map {α β : Type} (c : α → β) (l : List α) (n : Nat) (d : α) : (l.map c).getD n (c d) = c (l.getD n d) := by
  simp only [List.getD_eq_getElem?_getD, List.getElem?_map]
  cases l[n]? <;> rfl
/-- It ends, with true just where p holds. -/
def EvB (g : Nat → Option Bool) (p : Prop) : Prop := ∃ b, Ev g b ∧ (b = true ↔ p)
theorem EvB.iff {g : Nat → Option Bool} {p q : Prop} (h : EvB g p) (h' : p ↔ q) : EvB g q := by
  obtain ⟨b, hb, ib⟩ := h
  exact ⟨b, hb, ib.trans h'⟩
theorem EvB.dec {c : Prop} [Decidable c] : EvB (fun _ => some (decide c)) c := ⟨decide c, Ev.now _, decide_eq_true_iff⟩
theorem EvB.ite {c : Prop} [Decidable c] {A : Nat → Option Bool} {p : Prop} (h : EvB A p) : EvB (fun n => if c then A n else some false) (c ∧ p) := by
  obtain ⟨b, hb, ib⟩ := h
  by_cases hc : c
  · exact ⟨b, ev_pos hc hb, ⟨fun h => ⟨hc, ib.1 h⟩, fun h => ib.2 h.2⟩⟩
  · exact ⟨false, ev_neg hc (Ev.now _), ⟨fun h => (Bool.false_ne_true h).elim, fun h => absurd h.1 hc⟩⟩
theorem EvB.ite_not {c : Prop} [Decidable c] {A : Nat → Option Bool} {p : Prop} (h : EvB A p) : EvB (fun n => if c then some false else A n) (¬ c ∧ p) := by
  obtain ⟨b, hb, ib⟩ := h
  by_cases hc : c
  · exact ⟨false, ev_pos hc (Ev.now _), ⟨fun h => (Bool.false_ne_true h).elim, fun h => absurd hc h.1⟩⟩
  · exact ⟨b, ev_neg hc hb, ⟨fun h => ⟨hc, ib.1 h⟩, fun h => ib.2 h.2⟩⟩
theorem EvB.bind {g A : Nat → Option Bool} {p q : Prop} (h : EvB g p) (h' : EvB A q) : EvB (fun n => (g n).bind fun t => if t = true then A n else some false) (p ∧ q) := by
  obtain ⟨b, hb, ib⟩ := h
  obtain ⟨c, hc, ic⟩ := h'
  cases b with
  | true => exact ⟨c, Ev.bind hb (ev_pos rfl hc), ⟨fun h => ⟨ib.1 rfl, ic.1 h⟩, fun h => ic.2 h.2⟩⟩
  | false => exact ⟨false, Ev.bind hb (ev_neg (by decide) (Ev.now _)), ⟨fun h => (Bool.false_ne_true h).elim, fun h => absurd (ib.2 h.1) (by decide)⟩⟩
theorem EvB.last {g : Nat → Option Bool} {p : Prop} (h : EvB g p) : EvB (fun n => (g n).bind fun t => some t) p := by
  obtain ⟨b, hb, ib⟩ := h
  exact ⟨b, Ev.bind hb (Ev.now _), ib⟩
theorem EvB.same {g g' : Nat → Option Bool} {p : Prop} (h : EvB g p) (h' : EvB g' p) : ∃ b, Ev g b ∧ Ev g' b ∧ (b = true ↔ p) := by
  obtain ⟨b, hb, ib⟩ := h
  obtain ⟨c, hc, ic⟩ := h'
  obtain rfl : c = b := bool_eq_of_iff ic ib
  exact ⟨c, hb, hc, ib⟩
theorem EvB.bindE {g A B : Nat → Option Bool} {p q : Prop} (hB : Ev B false) (h : EvB g p) (h' : EvB A q) : EvB (fun n => (g n).bind fun t => if t = true then A n else B n) (p ∧ q) := by
  obtain ⟨b, hb, ib⟩ := h
  obtain ⟨c, hc, ic⟩ := h'
  cases b with
  | true => exact ⟨c, Ev.bind hb (ev_pos rfl hc), ⟨fun h => ⟨ib.1 rfl, ic.1 h⟩, fun h => ic.2 h.2⟩⟩
  | false => exact ⟨false, Ev.bind hb (ev_neg (by decide) hB), ⟨fun h => (Bool.false_ne_true h).elim, fun h => absurd (ib.2 h.1) (by decide)⟩⟩
theorem EvB.iteE {c : Prop} [Decidable c] {A B : Nat → Option Bool} {p : Prop} (hB : Ev B false) (h : EvB A p) : EvB (fun n => if c then A n else B n) (c ∧ p) := by
  obtain ⟨b, hb, ib⟩ := h
  by_cases hc : c
  · exact ⟨b, ev_pos hc hb, ⟨fun h => ⟨hc, ib.1 h⟩, fun h => ib.2 h.2⟩⟩
  · exact ⟨false, ev_neg hc hB, ⟨fun h => (Bool.false_ne_true h).elim, fun h => absurd h.1 hc⟩⟩
theorem EvB.bindN {g : Nat → Option Bool} {J : Nat → Bool → Option Bool} {p q : Prop} (hB : Ev (fun n => J n true) false) (h : EvB g p) (h' : EvB (fun n => J n false) q) : EvB (fun n => (g n).bind fun t => J n (!t)) (p ∧ q) := by
  obtain ⟨b, hb, ib⟩ := h
  obtain ⟨c, hc, ic⟩ := h'
  cases b with
  | true => exact ⟨c, Ev.bind hb hc, ⟨fun h => ⟨ib.1 rfl, ic.1 h⟩, fun h => ic.2 h.2⟩⟩
  | false => exact ⟨false, Ev.bind hb hB, ⟨fun h => (Bool.false_ne_true h).elim, fun h => absurd (ib.2 h.1) (by decide)⟩⟩
theorem EvB.succ {g : Nat → Option Bool} {p : Prop} (h : EvB (fun k => g (k + 1)) p) : EvB g p := by
  obtain ⟨b, hb, ib⟩ := h
  exact ⟨b, ev_succ hb, ib⟩
theorem EvB.true_ {p : Prop} (h : p) : EvB (fun _ => some true) p := ⟨true, Ev.now _, ⟨fun _ => h, fun _ => rfl⟩⟩
theorem EvB.false_ {p : Prop} (h : ¬ p) : EvB (fun _ => some false) p := ⟨false, Ev.now _, ⟨fun e => (Bool.false_ne_true e).elim, fun e => absurd e h⟩⟩
theorem EvB.pos {c : Prop} [Decidable c] {A B : Nat → Option Bool} {p : Prop} (hc : c) (h : EvB A p) : EvB (fun n => if c then A n else B n) p := by
  simpa only [if_pos hc] using h
theorem EvB.neg {c : Prop} [Decidable c] {A B : Nat → Option Bool} {p : Prop} (hc : ¬ c) (h : EvB B p) : EvB (fun n => if c then A n else B n) p := by
  simpa only [if_neg hc] using h

theorem impl_in_eq (a b c : Int) : impl_in.f a b c = some (decide (b ≤ a ∧ a ≤ c)) := by
  unfold impl_in.f
  split
  · congr 1
    rw [decide_eq_decide]
    omega
  · congr 1
    symm
    rw [decide_eq_false_iff_not]
    omega
theorem impl_in_evB (a b c : Int) : EvB (fun _ => impl_in.f a b c) (b ≤ a ∧ a ≤ c) := by
  rw [impl_in_eq]
  exact EvB.dec

def RunOk (a b c d : Int) : Prop := 1 ≤ a ∧ a ≤ 40 ∧ 0 ≤ b ∧ b ≤ 20 ∧ 1 ≤ c ∧ c ≤ 40 ∧ 2 ≤ d ∧ d ≤ 4
instance (a b c d : Int) : Decidable (RunOk a b c d) := by unfold RunOk; infer_instance
theorem impl_run_eq (a b c d : Int) : impl_RunnerOk.f a b c d = some (decide (RunOk a b c d)) := by
  simp only [impl_RunnerOk.f, impl_in_eq, Option.bind_some, decide_eq_true_eq]
  repeat' split
  all_goals first | (congr 1; rw [decide_eq_decide]; unfold RunOk; omega) | (congr 1; symm; rw [decide_eq_false_iff_not]; unfold RunOk; omega)

def gr (e p d : Int) : Int := mx (e * p - d) 0
theorem gr_bounds {e p d : Int} (h0 : 0 ≤ e) (h1 : e ≤ 4) (h2 : 1 ≤ p) (h3 : p ≤ 40) (h4 : 0 ≤ d) (h5 : d ≤ 20) : 0 ≤ e * p ∧ e * p ≤ 160 ∧ 0 ≤ gr e p d ∧ gr e p d ≤ 160 := by
  have a := Int.mul_nonneg h0 (show 0 ≤ p by omega)
  have b : e * p ≤ 4 * 40 := Int.mul_le_mul h1 h3 (by omega) (by omega)
  unfold gr mx
  split <;> omega
theorem impl_grow {p d s n e sp : Int} (h0 : 0 ≤ e) (h1 : e ≤ 4) (h2 : 1 ≤ p) (h3 : p ≤ 40) (h4 : 0 ≤ d) (h5 : d ≤ 20) (h6 : 0 ≤ sp) (h7 : sp ≤ 1000) : impl_Runner_grows.f p d s n sp e = some (sp + gr e p d) := by
  obtain ⟨a, b, c, f⟩ := gr_bounds h0 h1 h2 h3 h4 h5
  unfold impl_Runner_grows.f
  rw [w64 (x := e * p) (by omega) (by omega), w64 (x := e * p - d) (by omega) (by omega)]
  unfold gr at c f ⊢
  rw [w64 (by omega) (by omega)]

theorem wrap_i64_eq (n : Int) : IntKind.i64.wrap n = wrap64 n := by
  rw [IntKind.wrap_i64, wrap64]
theorem and_255 (x : Int) : 0 ≤ Go.bits .and .i64 x 255 ∧ Go.bits .and .i64 x 255 ≤ 255 := by
  have h : (BitVec.ofInt 64 x &&& BitVec.ofInt 64 255).toNat ≤ 255 := by
    rw [BitVec.toNat_and]
    exact Nat.le_trans Nat.and_le_right (by decide)
  show 0 ≤ IntKind.i64.wrap ((BitVec.ofInt 64 x &&& BitVec.ofInt 64 255).toNat : Int) ∧ IntKind.i64.wrap ((BitVec.ofInt 64 x &&& BitVec.ofInt 64 255).toNat : Int) ≤ 255
  generalize (BitVec.ofInt 64 x &&& BitVec.ofInt 64 255).toNat = m at h
  rw [wrap_i64_eq, w64 (by omega) (by omega)]
  omega
theorem new_loop (l : List Int) (hl : l.length ≤ 1048576) : ∀ (d n : Nat) (s : Int), n + d = l.length → ∃ s', Ev (fun k => spec_l1New.l0 k l s (n : Int)) (l, 0, s') := by
  intro d
  induction d with
  | zero =>
    intro n s hn
    refine ⟨s, ev_succ ?_⟩
    simp only [spec_l1New.l0]
    exact ev_neg (by omega) (Ev.now _)
  | succ d ih =>
    intro n s hn
    by_cases h : (n : Int) < 4000
    · obtain ⟨s', e⟩ := ih (n + 1) (Go.bits .and .i64 (wrap64 ((wrap64 ((wrap64 (s * 131)) + (wrap64 (rd l (n : Int))))) + 7)) 1073741823) (by omega)
      refine ⟨s', ev_succ ?_⟩
      simp only [spec_l1New.l0]
      rw [w64_succ (m := l.length) (n := n) (by omega) (by omega)]
      exact ev_pos (by omega) (ev_pos h (ev_pos (by omega) e))
    · refine ⟨s, ev_succ ?_⟩
      simp only [spec_l1New.l0]
      exact ev_pos (by omega) (ev_neg h (Ev.now _))
theorem new_ev (l : List Int) (hl : l.length ≤ 1048576) : ∃ s, Ev (fun k => spec_l1New.f k l) (l, 0, s) := by
  unfold spec_l1New.f
  exact new_loop l hl l.length 0 _ (by omega)
def At_ (l : List Int) (pos : Int) : Prop := 0 ≤ pos ∧ pos ≤ l.length
theorem byte_eq {l : List Int} (hl : l.length ≤ 1048576) {pos : Int} (hp : At_ l pos) (s : Int) : ∃ b pos' s', spec_l1Byte.f l pos s = some (b, pos', s') ∧ 0 ≤ b ∧ b ≤ 255 ∧ At_ l pos' := by
  obtain ⟨h0, h1⟩ := hp
  unfold spec_l1Byte.f
  by_cases h : pos < (l.length : Int)
  · rw [if_pos h, if_pos h0]
    refine ⟨_, _, _, rfl, (and_255 _).1, (and_255 _).2, ?_⟩
    rw [w64 (by omega) (by omega)]
    exact ⟨by omega, by omega⟩
  · rw [if_neg h]
    exact ⟨_, _, _, rfl, (and_255 _).1, (and_255 _).2, h0, h1⟩
theorem tmod_bd {x a : Int} (h0 : 0 ≤ x) (ha : 1 ≤ a) : 0 ≤ Int.tmod x a ∧ Int.tmod x a < a := by
  rw [Int.tmod_eq_emod_of_nonneg h0]
  exact ⟨Int.emod_nonneg _ (by omega), Int.emod_lt_of_pos _ (by omega)⟩
theorem below_eq {l : List Int} (hl : l.length ≤ 1048576) {pos : Int} (hp : At_ l pos) (s : Int) {a : Int} (ha : 1 ≤ a) : ∃ v pos' s', spec_l1Below.f l pos s a = some (v, pos', s') ∧ 0 ≤ v ∧ v < a ∧ At_ l pos' := by
  unfold spec_l1Below.f
  rw [if_neg (by omega)]
  obtain ⟨b0, p0, s0, e0, l0, u0, q0⟩ := byte_eq hl hp s
  obtain ⟨b1, p1, s1, e1, l1, u1, q1⟩ := byte_eq hl q0 s0
  obtain ⟨b2, p2, s2, e2, l2, u2, q2⟩ := byte_eq hl q1 s1
  obtain ⟨b3, p3, s3, e3, l3, u3, q3⟩ := byte_eq hl q2 s2
  by_cases h : a ≤ 256
  · rw [if_pos h, e0]
    simp only [Option.bind_some]
    rw [if_neg (by omega)]
    obtain ⟨t0, t1⟩ := tmod_bd l0 ha
    exact ⟨_, _, _, rfl, t0, t1, q0⟩
  · rw [if_neg h, e0]
    simp only [Option.bind_some, e1, e2, e3]
    rw [if_neg (by omega)]
    have w0 : wrap64 (b0 * 16777216) = b0 * 16777216 := w64 (by omega) (by omega)
    have w1 : wrap64 (b1 * 65536) = b1 * 65536 := w64 (by omega) (by omega)
    have w2 : wrap64 (b2 * 256) = b2 * 256 := w64 (by omega) (by omega)
    have w3 : wrap64 (b0 * 16777216 + b1 * 65536) = b0 * 16777216 + b1 * 65536 := w64 (by omega) (by omega)
    have w4 : wrap64 (b0 * 16777216 + b1 * 65536 + b2 * 256) = b0 * 16777216 + b1 * 65536 + b2 * 256 := w64 (by omega) (by omega)
    have w5 : wrap64 (b0 * 16777216 + b1 * 65536 + b2 * 256 + b3) = b0 * 16777216 + b1 * 65536 + b2 * 256 + b3 := w64 (by omega) (by omega)
    rw [w0, w1, w2, w3, w4, w5]
    obtain ⟨t0, t1⟩ := tmod_bd (x := b0 * 16777216 + b1 * 65536 + b2 * 256 + b3) (by omega) ha
    exact ⟨_, _, _, rfl, t0, t1, q3⟩

theorem drawRunner_ev (l : List Int) (hl : l.length ≤ 1048576) : ∃ p d s n lift, Ev (fun k => spec_DrawRunner.f k l) (p, d, s, n, lift) ∧ 2 ≤ p ∧ p ≤ 9 ∧ 0 ≤ d ∧ d ≤ 1 ∧ 1 ≤ s ∧ s ≤ 12 ∧ 2 ≤ n ∧ n ≤ 4 ∧ 1 ≤ lift ∧ lift ≤ 120 := by
  obtain ⟨s, hs⟩ := new_ev l hl
  obtain ⟨v1, p1, s1, e1, a1, b1, q1⟩ := below_eq hl (pos := 0) ⟨by omega, by omega⟩ s (a := 8) (by omega)
  obtain ⟨v2, p2, s2, e2, a2, b2, q2⟩ := below_eq hl q1 s1 (a := 2) (by omega)
  obtain ⟨v3, p3, s3, e3, a3, b3, q3⟩ := below_eq hl q2 s2 (a := 12) (by omega)
  obtain ⟨v4, p4, s4, e4, a4, b4, q4⟩ := below_eq hl q3 s3 (a := 3) (by omega)
  obtain ⟨v5, p5, s5, e5, a5, b5, q5⟩ := below_eq hl q4 s4 (a := 120) (by omega)
  refine ⟨2 + v1, v2, 1 + v3, 2 + v4, 1 + v5, ?_, by omega, by omega, by omega, by omega, by omega, by omega, by omega, by omega, by omega, by omega⟩
  unfold spec_DrawRunner.f
  refine Ev.bind hs ?_
  simp only [e1, e2, e3, e4, e5, Option.bind_some]
  rw [w64 (x := 2 + v1) (by omega) (by omega), w64 (x := 1 + v3) (by omega) (by omega), w64 (x := 2 + v4) (by omega) (by omega), w64 (x := 1 + v5) (by omega) (by omega)]
  exact Ev.now _

theorem at_ev {l : List Int} (h : ∀ x ∈ l, 0 ≤ x ∧ x ≤ 255) (hl : l.length ≤ 1048576) (i : Int) (h0 : 0 ≤ i) (h1 : i ≤ 1000000) : ∃ v, laws_at.f l i = some v ∧ 0 ≤ v ∧ v ≤ 255 := by
  unfold laws_at.f
  by_cases hi : i < (l.length : Int)
  · rw [if_pos hi, if_pos h0]
    have := u8_bounds h i.toNat
    refine ⟨_, rfl, ?_⟩
    unfold rd
    rw [w64 (by omega) (by omega)]
    exact this
  · rw [if_neg hi]
    refine ⟨_, rfl, ?_⟩
    rw [w64 (x := i * 7) (by omega) (by omega), w64 (by omega) (by omega), Int.tmod_eq_emod_of_nonneg (by omega)]
    omega

theorem big_ev {l : List Int} (h : l.length ≤ 1048576) : laws_big.f l = some false := by
  unfold laws_big.f
  rw [decide_eq_false (by omega)]
theorem big_big {l : List Int} (h : ¬ l.length ≤ 1048576) : laws_big.f l = some true := by
  unfold laws_big.f
  rw [decide_eq_true (by omega)]

theorem gr_pos {p d e : Int} (hp : 2 ≤ p) (hp' : p ≤ 9) (hd : 0 ≤ d) (hd' : d ≤ 1) (he : 1 ≤ e) (he' : e ≤ 4) : 1 ≤ gr e p d ∧ gr e p d ≤ 160 := by
  have b := gr_bounds (e := e) (p := p) (d := d) (by omega) (by omega) (by omega) (by omega) hd (by omega)
  have := Int.mul_le_mul he hp (by omega) (by omega)
  refine ⟨?_, b.2.2.2⟩
  unfold gr mx
  split <;> omega
theorem gr_mono {p d e e' : Int} (hp : 0 ≤ p) (h : e ≤ e') : gr e p d ≤ gr e' p d := by
  have := Int.mul_le_mul_of_nonneg_right h hp
  unfold gr mx
  split <;> split <;> omega
/-- one step of the roll, its engines `e'` known -/
theorem roll_step {p d s n x1 x2 sp far t e e' : Int} {R : Int × Int × Bool} (hp : 2 ≤ p) (hp' : p ≤ 9) (hd : 0 ≤ d) (hd' : d ≤ 1) (he : 1 ≤ e') (he' : e' ≤ 4) (hs : 0 ≤ sp) (hs' : sp ≤ 800) (hf : 0 ≤ far) (hf' : far ≤ 1000 * t) (ht : 0 ≤ t) (ht' : t ≤ sp) (hx : sp < x2)
    (hn : n ≤ 4 ∧ 2 ≤ n) (hc : (sp ≥ x1 ∧ e' = n - 1) ∨ (¬ sp ≥ x1 ∧ e' = e))
    (h : Ev (fun k => impl_Runner_rolls.l0 k x1 x2 (sp + gr e' p d) (far + (sp + gr e' p d)) (t + 1) e' p d s n) R) : Ev (fun k => impl_Runner_rolls.l0 k x1 x2 sp far t e p d s n) R := by
  have g := gr_pos hp hp' hd hd' he he'
  have e1 : wrap64 (far + (sp + gr e' p d)) = far + (sp + gr e' p d) := w64 (by omega) (by omega)
  have e2 : wrap64 (t + 1) = t + 1 := w64 (by omega) (by omega)
  have e3 : wrap64 (n - 1) = n - 1 := w64 (by omega) (by omega)
  have e4 := impl_grow (p := p) (d := d) (s := s) (n := n) (e := e') (sp := sp) (by omega) (by omega) (by omega) (by omega) hd (by omega) hs (by omega)
  refine ev_succ ?_
  rcases hc with ⟨c, q⟩ | ⟨c, q⟩
  · subst q
    simp only [impl_Runner_rolls.l0, e3, e4, Option.bind_some, e1, e2]
    exact ev_pos hx (ev_pos c (ev_neg (by omega) h))
  · subst q
    simp only [impl_Runner_rolls.l0, e3, e4, Option.bind_some, e1, e2]
    exact ev_pos hx (ev_neg c (ev_neg (by omega) h))
theorem roll_end {p d s n x1 x2 sp far t e : Int} (hx : ¬ sp < x2) : Ev (fun k => impl_Runner_rolls.l0 k x1 x2 sp far t e p d s n) (far, t, true) := by
  refine ev_succ ?_
  simp only [impl_Runner_rolls.l0]
  exact ev_neg hx (Ev.now _)
def Sooner (t : Int) (lift : Int) (R R' : Int × Int × Bool) : Prop := R.2.2 = true ∧ R'.2.2 = true ∧ R'.2.1 ≤ R.2.1 ∧ t ≤ R.2.1 ∧ lift ≤ R.1 ∧ lift ≤ R'.1
theorem roll_two {p d s n x1 x1' lift : Int} (hp : 2 ≤ p) (hp' : p ≤ 9) (hd : 0 ≤ d) (hd' : d ≤ 1) (hn : n ≤ 4 ∧ 2 ≤ n) (hl : lift ≤ 400) : ∀ (D : Nat) (sp sp' far far' t t' e e' : Int), lift - sp ≤ D → 0 ≤ sp → sp ≤ sp' → sp' ≤ 800 → (e = n - 1 ∨ (x1 ≤ sp ∧ e = n)) → (e' = n - 1 ∨ e' = n) → 0 ≤ t' → t' ≤ t → t ≤ sp → t' ≤ sp' → sp ≤ far → far ≤ 1000 * t → sp' ≤ far' → far' ≤ 1000 * t' →
    ∃ R R', Ev (fun k => impl_Runner_rolls.l0 k x1 lift sp far t e p d s n) R ∧ Ev (fun k => impl_Runner_rolls.l0 k x1' lift sp' far' t' e' p d s n) R' ∧ Sooner t lift R R' := by
  intro D
  induction D with
  | zero =>
    intro sp sp' far far' t t' e e' hD h0 h1 h2 he he' ht0 ht1 ht2 ht3 hf0 hf1 hf2 hf3
    exact ⟨_, _, roll_end (by omega), roll_end (by omega), rfl, rfl, ht1, Int.le_refl _, by show lift ≤ far; omega, by show lift ≤ far'; omega⟩
  | succ D ih =>
    intro sp sp' far far' t t' e e' hD h0 h1 h2 he he' ht0 ht1 ht2 ht3 hf0 hf1 hf2 hf3
    by_cases c : sp < lift
    · have g0 := gr_pos hp hp' hd hd' (e := n - 1) (by omega) (by omega)
      have g1 := gr_pos hp hp' hd hd' (e := n) (by omega) (by omega)
      have gm := gr_mono (p := p) (d := d) (e := n - 1) (e' := n) (by omega) (by omega)
      have near : ∀ R, Ev (fun k => impl_Runner_rolls.l0 k x1 lift (sp + gr (n - 1) p d) (far + (sp + gr (n - 1) p d)) (t + 1) (n - 1) p d s n) R → Ev (fun k => impl_Runner_rolls.l0 k x1 lift sp far t e p d s n) R := by
        intro R h
        refine roll_step hp hp' hd hd' (by omega) (by omega) h0 (by omega) (by omega) hf1 (by omega) ht2 c hn ?_ h
        by_cases q : x1 ≤ sp
        · exact Or.inl ⟨q, rfl⟩
        · exact Or.inr ⟨q, by omega⟩
      by_cases c' : sp' < lift
      · have hc : ∃ e1, ((sp' ≥ x1' ∧ e1 = n - 1) ∨ (¬ sp' ≥ x1' ∧ e1 = e')) ∧ (e1 = n - 1 ∨ e1 = n) := by
          by_cases q : x1' ≤ sp'
          · exact ⟨n - 1, Or.inl ⟨q, rfl⟩, Or.inl rfl⟩
          · exact ⟨e', Or.inr ⟨q, rfl⟩, he'⟩
        obtain ⟨e1, hc, hq⟩ := hc
        have ge : gr (n - 1) p d ≤ gr e1 p d ∧ gr e1 p d ≤ 160 := by
          rcases hq with q | q <;> subst q <;> omega
        obtain ⟨R, R', r1, r2, w1, w2, w3, w4, w5, w6⟩ := ih (sp + gr (n - 1) p d) (sp' + gr e1 p d) (far + (sp + gr (n - 1) p d)) (far' + (sp' + gr e1 p d)) (t + 1) (t' + 1) (n - 1) e1 (by omega) (by omega) (by omega) (by omega) (Or.inl rfl) hq (by omega) (by omega) (by omega) (by omega) (by omega) (by omega) (by omega) (by omega)
        exact ⟨R, R', near R r1, roll_step hp hp' hd hd' (by omega) (by omega) (by omega) h2 (by omega) hf3 ht0 ht3 c' hn hc r2, w1, w2, w3, by omega, w5, w6⟩
      · obtain ⟨R, R', r1, r2, w1, w2, w3, w4, w5, w6⟩ := ih (sp + gr (n - 1) p d) (sp + gr (n - 1) p d) (far + (sp + gr (n - 1) p d)) (far + (sp + gr (n - 1) p d)) (t + 1) (t + 1) (n - 1) (n - 1) (by omega) (by omega) (by omega) (by omega) (Or.inl rfl) (Or.inl rfl) (by omega) (by omega) (by omega) (by omega) (by omega) (by omega) (by omega) (by omega)
        exact ⟨R, (far', t', true), near R r1, roll_end c', w1, rfl, by show t' ≤ R.2.1; omega, by omega, w5, by show lift ≤ far'; omega⟩
    · exact ⟨_, _, roll_end c, roll_end (by omega), rfl, rfl, ht1, Int.le_refl _, by show lift ≤ far; omega, by show lift ≤ far'; omega⟩
theorem roll_one {p d s n x1 x1' lift : Int} (hp : 2 ≤ p) (hp' : p ≤ 9) (hd : 0 ≤ d) (hd' : d ≤ 1) (hn : n ≤ 4 ∧ 2 ≤ n) (hl : lift ≤ 400) (hx : x1 ≤ x1') : ∀ (D : Nat) (sp far t : Int), lift - sp ≤ D → 0 ≤ sp → sp ≤ 800 → 0 ≤ t → t ≤ sp → sp ≤ far → far ≤ 1000 * t →
    ∃ R R', Ev (fun k => impl_Runner_rolls.l0 k x1 lift sp far t n p d s n) R ∧ Ev (fun k => impl_Runner_rolls.l0 k x1' lift sp far t n p d s n) R' ∧ Sooner t lift R R' := by
  intro D
  induction D with
  | zero =>
    intro sp far t hD h0 h1 ht0 ht1 hf0 hf1
    exact ⟨_, _, roll_end (by omega), roll_end (by omega), rfl, rfl, Int.le_refl _, Int.le_refl _, by show lift ≤ far; omega, by show lift ≤ far; omega⟩
  | succ D ih =>
    intro sp far t hD h0 h1 ht0 ht1 hf0 hf1
    by_cases c : sp < lift
    · by_cases q : x1 ≤ sp
      · exact roll_two hp hp' hd hd' hn hl (D + 1) sp sp far far t t n n hD h0 (Int.le_refl _) h1 (Or.inr ⟨q, rfl⟩) (Or.inr rfl) ht0 (Int.le_refl _) ht1 ht1 hf0 hf1 hf0 hf1
      · have g1 := gr_pos hp hp' hd hd' (e := n) (by omega) (by omega)
        obtain ⟨R, R', r1, r2, w1, w2, w3, w4, w5, w6⟩ := ih (sp + gr n p d) (far + (sp + gr n p d)) (t + 1) (by omega) (by omega) (by omega) (by omega) (by omega) (by omega) (by omega)
        exact ⟨R, R', roll_step hp hp' hd hd' (by omega) (by omega) h0 (by omega) (by omega) hf1 ht0 ht1 c hn (Or.inr ⟨q, rfl⟩) r1, roll_step hp hp' hd hd' (by omega) (by omega) h0 (by omega) (by omega) hf1 ht0 ht1 c hn (Or.inr ⟨by omega, rfl⟩) r2, w1, w2, w3, by omega, w5, w6⟩
    · exact ⟨_, _, roll_end c, roll_end c, rfl, rfl, Int.le_refl _, Int.le_refl _, by show lift ≤ far; omega, by show lift ≤ far; omega⟩
theorem rolls_val {p d s n fail lift : Int} (h1 : RunOk p d s n) (h2 : 0 ≤ fail ∧ fail ≤ 400) (h3 : 1 ≤ lift ∧ lift ≤ 400) {R : Int × Int × Bool} (h : Ev (fun k => impl_Runner_rolls.l0 k fail lift 0 0 0 n p d s n) R) : Ev (fun k => impl_Rolls.f k p d s n fail lift) R := by
  simp only [impl_Rolls.f, impl_run_eq, impl_speedOk.f, impl_in_eq, Option.bind_some, decide_eq_true h1, decide_eq_true h2, decide_eq_true h3]
  simp only [impl_Runner_rolls.f]
  exact ev_pos (by trivial) (ev_pos (by trivial) (ev_pos (by trivial) (Ev.bind h (Ev.now _))))
theorem brake_two {p d s n : Int} (hs : 1 ≤ s ∧ s ≤ 12) : ∀ (D : Nat) (sp sp' far far' : Int), sp' ≤ D → 0 ≤ sp → sp ≤ sp' → sp' ≤ 1000 → 0 ≤ far → far ≤ far' → far' + 1000 * sp' ≤ 100000000 → ∃ r r', Ev (fun k => impl_Runner_stops.l1 k sp far p d s n) (r, true) ∧ Ev (fun k => impl_Runner_stops.l1 k sp' far' p d s n) (r', true) ∧ r ≤ r' ∧ far ≤ r := by
  intro D
  induction D with
  | zero =>
    intro sp sp' far far' hD h0 h1 h2 h3 h4 h5
    refine ⟨far, far', ev_succ ?_, ev_succ ?_, h4, Int.le_refl _⟩
    · simp only [impl_Runner_stops.l1]
      exact ev_neg (by omega) (Ev.now _)
    · simp only [impl_Runner_stops.l1]
      exact ev_neg (by omega) (Ev.now _)
  | succ D ih =>
    intro sp sp' far far' hD h0 h1 h2 h3 h4 h5
    have m1 : 0 ≤ mx (sp - s) 0 ∧ mx (sp - s) 0 ≤ mx (sp' - s) 0 := by
      unfold mx
      split <;> split <;> omega
    have e1 : wrap64 (sp' - s) = sp' - s := w64 (by omega) (by omega)
    have e2 : wrap64 (sp - s) = sp - s := w64 (by omega) (by omega)
    by_cases c' : sp' > 0
    · have m2 : mx (sp' - s) 0 < sp' := by
        unfold mx
        split <;> omega
      have e3 : wrap64 (far' + mx (sp' - s) 0) = far' + mx (sp' - s) 0 := w64 (by omega) (by omega)
      have e4 : wrap64 (far + mx (sp - s) 0) = far + mx (sp - s) 0 := w64 (by omega) (by omega)
      by_cases c : sp > 0
      · obtain ⟨r, r', r1, r2, r3, r4⟩ := ih (mx (sp - s) 0) (mx (sp' - s) 0) (far + mx (sp - s) 0) (far' + mx (sp' - s) 0) (by omega) (by omega) (by omega) (by omega) (by omega) (by omega) (by omega)
        refine ⟨r, r', ev_succ ?_, ev_succ ?_, r3, by omega⟩
        · simp only [impl_Runner_stops.l1, e2, e4]
          exact ev_pos c r1
        · simp only [impl_Runner_stops.l1, e1, e3]
          exact ev_pos c' r2
      · obtain ⟨r, r', r1, r2, r3, r4⟩ := ih 0 (mx (sp' - s) 0) far (far' + mx (sp' - s) 0) (by omega) (by omega) (by omega) (by omega) (by omega) (by omega) (by omega)
        have hz : sp = 0 := by omega
        subst hz
        refine ⟨r, r', r1, ev_succ ?_, r3, by omega⟩
        simp only [impl_Runner_stops.l1, e1, e3]
        exact ev_pos c' r2
    · refine ⟨far, far', ev_succ ?_, ev_succ ?_, h4, Int.le_refl _⟩
      · simp only [impl_Runner_stops.l1]
        exact ev_neg (by omega) (Ev.now _)
      · simp only [impl_Runner_stops.l1]
        exact ev_neg (by omega) (Ev.now _)
theorem stop_step {p d s n x sp far : Int} {R : Int × Bool} (hp : 2 ≤ p) (hp' : p ≤ 9) (hd : 0 ≤ d) (hd' : d ≤ 1) (hn : n ≤ 4 ∧ 2 ≤ n) (h0 : 0 ≤ sp) (h1 : sp ≤ 800) (hf : 0 ≤ far) (hf' : far ≤ 1000000) (c : sp < x)
    (h : Ev (fun k => impl_Runner_stops.l0 k x (sp + gr n p d) (far + (sp + gr n p d)) p d s n) R) : Ev (fun k => impl_Runner_stops.l0 k x sp far p d s n) R := by
  have g := gr_pos hp hp' hd hd' (e := n) (by omega) (by omega)
  have e4 := impl_grow (p := p) (d := d) (s := s) (n := n) (e := n) (sp := sp) (by omega) (by omega) (by omega) (by omega) hd (by omega) h0 (by omega)
  have e1 : wrap64 (far + (sp + gr n p d)) = far + (sp + gr n p d) := w64 (by omega) (by omega)
  refine ev_succ ?_
  simp only [impl_Runner_stops.l0, e4, Option.bind_some, e1]
  exact ev_pos c (ev_neg (by omega) h)
theorem stop_end {p d s n x sp far : Int} {R : Int × Bool} (hp : 2 ≤ p) (hp' : p ≤ 9) (hd : 0 ≤ d) (hd' : d ≤ 1) (hn : n ≤ 4 ∧ 2 ≤ n) (h0 : 0 ≤ sp) (h1 : sp ≤ 800) (hf : 0 ≤ far) (hf' : far ≤ 1000000) (c : ¬ sp < x)
    (h : Ev (fun k => impl_Runner_stops.l1 k (sp + gr (n - 1) p d) (far + (sp + gr (n - 1) p d)) p d s n) R) : Ev (fun k => impl_Runner_stops.l0 k x sp far p d s n) R := by
  have g := gr_pos hp hp' hd hd' (e := n - 1) (by omega) (by omega)
  have e3 : wrap64 (n - 1) = n - 1 := w64 (by omega) (by omega)
  have e4 := impl_grow (p := p) (d := d) (s := s) (n := n) (e := n - 1) (sp := sp) (by omega) (by omega) (by omega) (by omega) hd (by omega) h0 (by omega)
  have e1 : wrap64 (far + (sp + gr (n - 1) p d)) = far + (sp + gr (n - 1) p d) := w64 (by omega) (by omega)
  refine ev_succ ?_
  simp only [impl_Runner_stops.l0, e3, e4, Option.bind_some, e1]
  exact ev_neg c h
theorem stop_two {p d s n x : Int} (hp : 2 ≤ p) (hp' : p ≤ 9) (hd : 0 ≤ d) (hd' : d ≤ 1) (hs : 1 ≤ s ∧ s ≤ 12) (hn : n ≤ 4 ∧ 2 ≤ n) (hx : x ≤ 200) : ∀ (D : Nat) (sp far : Int), x - sp ≤ D → 0 ≤ sp → sp ≤ 400 → 0 ≤ far → far ≤ 500 * sp → ∃ r r', Ev (fun k => impl_Runner_stops.l0 k x sp far p d s n) (r, true) ∧ Ev (fun k => impl_Runner_stops.l0 k (x + 1) sp far p d s n) (r', true) ∧ r ≤ r' ∧ 0 < r := by
  intro D
  have g0 := gr_pos hp hp' hd hd' (e := n - 1) (by omega) (by omega)
  have g1 := gr_pos hp hp' hd hd' (e := n) (by omega) (by omega)
  have stop : ∀ (sp far : Int), ¬ sp < x → 0 ≤ sp → sp ≤ 400 → 0 ≤ far → far ≤ 500 * sp → ∃ r r', Ev (fun k => impl_Runner_stops.l0 k x sp far p d s n) (r, true) ∧ Ev (fun k => impl_Runner_stops.l0 k (x + 1) sp far p d s n) (r', true) ∧ r ≤ r' ∧ 0 < r := by
    intro sp far c h0 h1 h2 h3
    by_cases c' : sp < x + 1
    · obtain ⟨r, r', r1, r2, r3, r4⟩ := brake_two (p := p) (d := d) (n := n) hs 1000 (sp + gr (n - 1) p d) (sp + gr n p d + gr (n - 1) p d) (far + (sp + gr (n - 1) p d)) (far + (sp + gr n p d) + (sp + gr n p d + gr (n - 1) p d)) (by omega) (by omega) (by omega) (by omega) (by omega) (by omega) (by omega)
      exact ⟨r, r', stop_end hp hp' hd hd' hn h0 (by omega) h2 (by omega) c r1, stop_step hp hp' hd hd' hn h0 (by omega) h2 (by omega) c' (stop_end hp hp' hd hd' hn (by omega) (by omega) (by omega) (by omega) (by omega) r2), r3, by omega⟩
    · obtain ⟨r, r', r1, r2, r3, r4⟩ := brake_two (p := p) (d := d) (n := n) hs 1000 (sp + gr (n - 1) p d) (sp + gr (n - 1) p d) (far + (sp + gr (n - 1) p d)) (far + (sp + gr (n - 1) p d)) (by omega) (by omega) (by omega) (by omega) (by omega) (by omega) (by omega)
      exact ⟨r, r', stop_end hp hp' hd hd' hn h0 (by omega) h2 (by omega) c r1, stop_end hp hp' hd hd' hn h0 (by omega) h2 (by omega) c' r2, r3, by omega⟩
  induction D with
  | zero =>
    intro sp far hD h0 h1 h2 h3
    exact stop sp far (by omega) h0 h1 h2 h3
  | succ D ih =>
    intro sp far hD h0 h1 h2 h3
    by_cases c : sp < x
    · obtain ⟨r, r', r1, r2, r3, r4⟩ := ih (sp + gr n p d) (far + (sp + gr n p d)) (by omega) (by omega) (by omega) (by omega) (by omega)
      exact ⟨r, r', stop_step hp hp' hd hd' hn h0 (by omega) h2 (by omega) c r1, stop_step hp hp' hd hd' hn h0 (by omega) h2 (by omega) (by omega) r2, r3, r4⟩
    · exact stop sp far c h0 h1 h2 h3
theorem stops_val {p d s n x : Int} (h1 : RunOk p d s n) (h2 : 0 ≤ x ∧ x ≤ 400) {R : Int × Bool} (h : Ev (fun k => impl_Runner_stops.l0 k x 0 0 p d s n) R) : Ev (fun k => impl_Stops.f k p d s n x) R := by
  simp only [impl_Stops.f, impl_run_eq, impl_speedOk.f, impl_in_eq, Option.bind_some, decide_eq_true h1, decide_eq_true h2, impl_Runner_stops.f]
  exact ev_pos (by trivial) (ev_pos (by trivial) (Ev.bind h (Ev.now _)))
theorem FnRolls : laws_FnRolls.PureR := by
  intro l0 ⟨hm, hwf⟩
  refine Ev.rounds ?_
  unfold laws_FnRolls.f
  by_cases hb : l0.length ≤ 1048576
  · rw [big_ev hb]
    obtain ⟨v, qv, v0, v1⟩ := at_ev hwf hb 2 (by omega) (by omega)
    obtain ⟨u, qu, u0, u1⟩ := at_ev hwf hb 3 (by omega) (by omega)
    obtain ⟨p, d, s, n, lift, hd, p0, p1, d0, d1, s0, s1, n0, n1, l1, l2⟩ := drawRunner_ev l0 hb
    have hR : RunOk p d s n := by
      unfold RunOk
      omega
    have e1 : wrap64 (lift + 1) = lift + 1 := w64 (by omega) (by omega)
    obtain ⟨f0, f1⟩ := tmod_bd v0 (a := lift + 1) (by omega)
    obtain ⟨y0, y1⟩ := tmod_bd u0 (a := 20) (by omega)
    simp only [Option.bind_some, qv, qu]
    refine ev_neg (by decide) (Ev.bind hd ?_)
    simp only [e1]
    refine ev_neg (by omega) ?_
    generalize Int.tmod v (lift + 1) = x at f0 f1
    generalize Int.tmod u 20 = y at y0 y1
    have e2 : wrap64 (x + 1) = x + 1 := w64 (by omega) (by omega)
    have e3 : wrap64 (x + 1 + y) = x + 1 + y := w64 (by omega) (by omega)
    obtain ⟨R, R', r1, r2, w1, w2, w3, w4, w5, w6⟩ := roll_one (s := s) (x1 := x) (x1' := x + 1 + y) (lift := lift) p0 p1 d0 d1 ⟨n1, n0⟩ (by omega) (by omega) 400 0 0 0 (by omega) (by omega) (by omega) (by omega) (by omega) (by omega) (by omega)
    have q1 := rolls_val hR ⟨f0, by omega⟩ ⟨by omega, by omega⟩ r1
    have q2 := rolls_val hR (fail := x + 1 + y) ⟨by omega, by omega⟩ ⟨by omega, by omega⟩ r2
    obtain ⟨a, a', t1, t2, t3, t4⟩ := stop_two (x := x) p0 p1 d0 d1 ⟨s0, s1⟩ ⟨n1, n0⟩ (by omega) 400 0 0 (by omega) (by omega) (by omega) (by omega) (by omega)
    have z1 := stops_val hR ⟨f0, by omega⟩ t1
    have z2 := stops_val hR (x := x + 1) ⟨by omega, by omega⟩ t2
    simp only [e2, e3, impl_run_eq, decide_eq_true hR, Option.bind_some]
    refine Ev.bind q1 (Ev.bind q2 (ev_pos (by trivial) (ev_pos w1 (ev_pos w2 (ev_neg (by omega) (ev_neg (by omega) ?_))))))
    simp only [decide_eq_false (show ¬ R'.1 < lift by omega)]
    refine ev_succ ?_
    simp only [laws_FnRolls.j0, e2]
    exact ev_neg (by decide) (Ev.bind z1 (Ev.bind z2 (ev_pos (by trivial) (ev_pos (by trivial) (ev_pos t3 (ev_pos t4 (Ev.now _)))))))
  · rw [big_big hb]
    simp only [Option.bind_some]
    exact ev_pos (by trivial) (Ev.now _)

end Go.Proofs.Ytgbkmbdciknedaa.Pure
