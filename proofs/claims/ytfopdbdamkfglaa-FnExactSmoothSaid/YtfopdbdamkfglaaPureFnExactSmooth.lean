/- Proved here: the program's and the reference's Smooth are the same function of the list and the part, and share no memory; no condition. -/
import Derived.Test.YtfopdbdamkfglaaPureDefFnExactSmooth
namespace Go.Proofs.Ytfopdbdamkfglaa.Pure
open Go.RowKit Go.Proofs.Ytfopdbdamkfglaa.QFnExactSmooth Go.Proofs.YtfopdbdamkfglaaW.PrintWords Go.Proofs.YtfopdbdamkfglaaW.PrintLast Go.Proofs.YtfopdbdamkfglaaW.PrintMore
set_option linter.unusedVariables false
set_option linter.unusedSimpArgs false

theorem ev_pos {c : Prop} [Decidable c] {α : Type} {A B : Nat → Option α} {r : α} (h : c) (k : Ev A r) : Ev (fun n => if c then A n else B n) r := by
  simpa only [if_pos h] using k
theorem ev_neg {c : Prop} [Decidable c] {α : Type} {A B : Nat → Option α} {r : α} (h : ¬ c) (k : Ev B r) : Ev (fun n => if c then A n else B n) r := by
  simpa only [if_neg h] using k
theorem ev_succ {α : Type} {g : Nat → Option α} {r : α} (h : Ev (fun k => g (k + 1)) r) : Ev g r := Ev.step (fun _ => rfl) h
theorem ex_succ {α : Type} {g : Nat → Option α} (h : ∃ r, Ev (fun k => g (k + 1)) r) : ∃ r, Ev g r := by
  obtain ⟨r, h⟩ := h
  exact ⟨r, ev_succ h⟩
theorem ev_one {α : Type} {g : Nat → Option α} {r q : α} (h : Ev g r) (h' : Ev g q) : r = q := by
  obtain ⟨K, hK⟩ := h
  obtain ⟨L, hL⟩ := h'
  have a := hK (max K L) (Nat.le_max_left _ _)
  have b := hL (max K L) (Nat.le_max_right _ _)
  exact Option.some.inj (a.symm.trans b)
theorem ev_bool {α : Type} {A B : Nat → Option α} {r : α} (b : Bool) (h1 : b = true → Ev A r) (h2 : b = false → Ev B r) : Ev (fun n => if b = true then A n else B n) r := by
  cases b with
  | true => exact ev_pos (by trivial) (h1 rfl)
  | false => exact ev_neg (by decide) (h2 rfl)
theorem bool_eq_of_iff {a b : Bool} {p : Prop} (h : a = true ↔ p) (h' : b = true ↔ p) : a = b := by
  rw [Bool.eq_iff_iff]
  exact h.trans h'.symm
theorem w64 {x : Int} (h0 : -9223372036854775808 ≤ x) (h1 : x ≤ 9223372036854775807) : wrap64 x = x := by
  unfold wrap64
  omega
theorem w64_succ {n m : Nat} (h : n < m) (hm : m ≤ 9223372036854775807) : wrap64 ((n : Int) + 1) = ((n + 1 : Nat) : Int) := by
  unfold wrap64
  omega
theorem rd_nat (l : List Int) (n : Nat) : rd l (n : Int) = l.getD n 0 := by
  unfold rd
  rw [Int.toNat_natCast]
theorem take_set_succ {α : Type} (d : α) {x0 x3 : List α} {n : Nat} (h : n < x0.length) (hl : x3.length = x0.length) (ht : x3.take n = x0.take n) : (x3.set n (x0.getD n d)).take (n + 1) = x0.take (n + 1) := by
  apply List.ext_getElem?
  intro i
  simp only [List.getElem?_take, List.getElem?_set]
  by_cases hi : i < n + 1
  · rw [if_pos hi, if_pos hi]
    by_cases he : n = i
    · subst he
      rw [if_pos rfl, if_pos (by omega), List.getD_eq_getElem?_getD, List.getElem?_eq_getElem h]
      rfl
    · rw [if_neg he]
      have := congrArg (fun l => l[i]?) ht
      simpa only [List.getElem?_take, if_pos (show i < n by omega)] using this
  · rw [if_neg hi, if_neg hi]
theorem u8_bounds {l : List Int} (h : ∀ x ∈ l, 0 ≤ x ∧ x ≤ 255) (n : Nat) : 0 ≤ l.getD n 0 ∧ l.getD n 0 ≤ 255 := by
  rw [List.getD_eq_getElem?_getD]
  cases e : l[n]? with
  | none => simp
  | some x =>
    exact h x (List.mem_of_getElem? e)
theorem getD_map {α β : Type} (c : α → β) (l : List α) (n : Nat) (d : α) : (l.map c).getD n (c d) = c (l.getD n d) := by
  simp only [List.getD_eq_getElem?_getD, List.getElem?_map]
  cases l[n]? <;> rfl
/-- It ends, with true just where p holds. -/
def EvB (g : Nat → Option Bool) (p : Prop) : Prop := ∃ b, Ev g b ∧ (b = true ↔ p)
theorem EvB.iff {g : Nat → Option Bool} {p q : Prop} (h : EvB g p) (h' : p ↔ q) : EvB g q := by
  obtain ⟨b, hb, ib⟩ := h
  exact ⟨b, hb, ib.trans h'⟩
theorem EvB.dec {c : Prop} [Decidable c] : EvB (fun _ => some (decide c)) c := ⟨decide c, Ev.now _, decide_eq_true_iff⟩
theorem EvB.ite {c : Prop} [Decidable c] {A : Nat → Option Bool} {p : Prop} (h : EvB A p) : EvB (fun n => if c then A n else some false) (c ∧ p) := by
  obtain ⟨b, hb, ib⟩ := h
  by_cases hc : c
  · exact ⟨b, ev_pos hc hb, ⟨fun h => ⟨hc, ib.1 h⟩, fun h => ib.2 h.2⟩⟩
  · exact ⟨false, ev_neg hc (Ev.now _), ⟨fun h => (Bool.false_ne_true h).elim, fun h => absurd h.1 hc⟩⟩
theorem EvB.ite_not {c : Prop} [Decidable c] {A : Nat → Option Bool} {p : Prop} (h : EvB A p) : EvB (fun n => if c then some false else A n) (¬ c ∧ p) := by
  obtain ⟨b, hb, ib⟩ := h
  by_cases hc : c
  · exact ⟨false, ev_pos hc (Ev.now _), ⟨fun h => (Bool.false_ne_true h).elim, fun h => absurd hc h.1⟩⟩
  · exact ⟨b, ev_neg hc hb, ⟨fun h => ⟨hc, ib.1 h⟩, fun h => ib.2 h.2⟩⟩
theorem EvB.bind {g A : Nat → Option Bool} {p q : Prop} (h : EvB g p) (h' : EvB A q) : EvB (fun n => (g n).bind fun t => if t = true then A n else some false) (p ∧ q) := by
  obtain ⟨b, hb, ib⟩ := h
  obtain ⟨c, hc, ic⟩ := h'
  cases b with
  | true => exact ⟨c, Ev.bind hb (ev_pos rfl hc), ⟨fun h => ⟨ib.1 rfl, ic.1 h⟩, fun h => ic.2 h.2⟩⟩
  | false => exact ⟨false, Ev.bind hb (ev_neg (by decide) (Ev.now _)), ⟨fun h => (Bool.false_ne_true h).elim, fun h => absurd (ib.2 h.1) (by decide)⟩⟩
theorem EvB.last {g : Nat → Option Bool} {p : Prop} (h : EvB g p) : EvB (fun n => (g n).bind fun t => some t) p := by
  obtain ⟨b, hb, ib⟩ := h
  exact ⟨b, Ev.bind hb (Ev.now _), ib⟩
theorem EvB.same {g g' : Nat → Option Bool} {p : Prop} (h : EvB g p) (h' : EvB g' p) : ∃ b, Ev g b ∧ Ev g' b ∧ (b = true ↔ p) := by
  obtain ⟨b, hb, ib⟩ := h
  obtain ⟨c, hc, ic⟩ := h'
  obtain rfl : c = b := bool_eq_of_iff ic ib
  exact ⟨c, hb, hc, ib⟩
theorem EvB.bindE {g A B : Nat → Option Bool} {p q : Prop} (hB : Ev B false) (h : EvB g p) (h' : EvB A q) : EvB (fun n => (g n).bind fun t => if t = true then A n else B n) (p ∧ q) := by
  obtain ⟨b, hb, ib⟩ := h
  obtain ⟨c, hc, ic⟩ := h'
  cases b with
  | true => exact ⟨c, Ev.bind hb (ev_pos rfl hc), ⟨fun h => ⟨ib.1 rfl, ic.1 h⟩, fun h => ic.2 h.2⟩⟩
  | false => exact ⟨false, Ev.bind hb (ev_neg (by decide) hB), ⟨fun h => (Bool.false_ne_true h).elim, fun h => absurd (ib.2 h.1) (by decide)⟩⟩
theorem EvB.iteE {c : Prop} [Decidable c] {A B : Nat → Option Bool} {p : Prop} (hB : Ev B false) (h : EvB A p) : EvB (fun n => if c then A n else B n) (c ∧ p) := by
  obtain ⟨b, hb, ib⟩ := h
  by_cases hc : c
  · exact ⟨b, ev_pos hc hb, ⟨fun h => ⟨hc, ib.1 h⟩, fun h => ib.2 h.2⟩⟩
  · exact ⟨false, ev_neg hc hB, ⟨fun h => (Bool.false_ne_true h).elim, fun h => absurd h.1 hc⟩⟩
theorem EvB.bindN {g : Nat → Option Bool} {J : Nat → Bool → Option Bool} {p q : Prop} (hB : Ev (fun n => J n true) false) (h : EvB g p) (h' : EvB (fun n => J n false) q) : EvB (fun n => (g n).bind fun t => J n (!t)) (p ∧ q) := by
  obtain ⟨b, hb, ib⟩ := h
  obtain ⟨c, hc, ic⟩ := h'
  cases b with
  | true => exact ⟨c, Ev.bind hb hc, ⟨fun h => ⟨ib.1 rfl, ic.1 h⟩, fun h => ic.2 h.2⟩⟩
  | false => exact ⟨false, Ev.bind hb hB, ⟨fun h => (Bool.false_ne_true h).elim, fun h => absurd (ib.2 h.1) (by decide)⟩⟩
theorem EvB.succ {g : Nat → Option Bool} {p : Prop} (h : EvB (fun k => g (k + 1)) p) : EvB g p := by
  obtain ⟨b, hb, ib⟩ := h
  exact ⟨b, ev_succ hb, ib⟩
theorem EvB.true_ {p : Prop} (h : p) : EvB (fun _ => some true) p := ⟨true, Ev.now _, ⟨fun _ => h, fun _ => rfl⟩⟩
theorem EvB.false_ {p : Prop} (h : ¬ p) : EvB (fun _ => some false) p := ⟨false, Ev.now _, ⟨fun e => (Bool.false_ne_true e).elim, fun e => absurd e h⟩⟩
theorem EvB.pos {c : Prop} [Decidable c] {A B : Nat → Option Bool} {p : Prop} (hc : c) (h : EvB A p) : EvB (fun n => if c then A n else B n) p := by
  simpa only [if_pos hc] using h
theorem EvB.neg {c : Prop} [Decidable c] {A B : Nat → Option Bool} {p : Prop} (hc : ¬ c) (h : EvB B p) : EvB (fun n => if c then A n else B n) p := by
  simpa only [if_neg hc] using h

theorem fcmp_ne (k : FloatKind) (x y : Fl) : fcmp .neq k x y = !fcmp .eql k x y := rfl
theorem sameFloat_ev (x : Fl) : Ev (fun k => laws_sameFloat.f k x x) true := by
  unfold laws_sameFloat.f
  cases h : fcmp .eql .f64 x x with
  | false =>
    have hn : fcmp .neq .f64 x x = true := by rw [fcmp_ne, h]; rfl
    refine ev_pos hn (ev_succ ?_)
    simp only [laws_sameFloat.j0, hn, if_true]
    exact Ev.now _
  | true =>
    have hn : fcmp .neq .f64 x x = false := by rw [fcmp_ne, h]; rfl
    refine ev_neg (by rw [hn]; decide) (ev_succ ?_)
    simp only [laws_sameFloat.j0, hn, h]
    refine ev_neg (by decide) ?_
    refine ev_bool _ (fun hz => ?_) (fun _ => Ev.now _)
    exact ev_pos hz (by simpa using Ev.now true)

theorem read_word_le {f : Ieee.Format} {s : Bool} {r : Nat} (h : r ≤ f.infRung) : (f.read (f.word s r)).isNaN = false := by
  have h2 : f.infRung < f.signWeight := f.infRung_lt
  have hw : f.word s r % f.signWeight = r := by
    unfold Ieee.Format.word
    split
    · rw [Nat.add_mod_left]; exact Nat.mod_eq_of_lt (by omega)
    · exact Nat.mod_eq_of_lt (by omega)
  unfold Ieee.Format.read
  simp only [hw]
  split
  · rfl
  · split
    · rfl
    · rw [if_pos (by omega)]; rfl
theorem nearest_num (f : Ieee.Format) (s : Bool) (m : Nat) (p : Int) : (f.read (f.nearest s m p)).isNaN = false := by
  unfold Ieee.Format.nearest
  split
  · exact read_word_le (Nat.zero_le _)
  · exact read_word_le (Nat.min_le_right _ _)
theorem order_self (d : Ieee.Datum) (h : d.isNaN = false) : d.order d = some .eq := by
  cases d with
  | nan s t => cases h
  | infinity s => simp [Ieee.Datum.order]
  | number s m e => simp [Ieee.Datum.order]
theorem cn_eq {k : FloatKind} {b : Nat} (h : (k.format.read b).isNaN = false) : fcmp .eql k (cn k b) (cn k b) = true := by
  unfold fcmp
  simp only [ford_cn]
  unfold Ieee.Format.order
  rw [order_self _ h]
  rfl
theorem fint_eq (k : FloatKind) (n : Int) : fcmp .eql k (fint k n) (fint k n) = true := cn_eq (nearest_num _ _ _ _)
theorem fint_ne (k : FloatKind) (n : Int) : fcmp .neq k (fint k n) (fint k n) = false := by
  show (!fcmp .eql k (fint k n) (fint k n)) = false
  rw [fint_eq]
  rfl

theorem rdf_n (l : List Fl) (n : Nat) : rdf .f64 l (n : Int) = l.getD n (cn .f64 0) := by
  unfold rdf
  rw [Int.toNat_natCast]
theorem toF64S_loop (x0 : List Fl) (hx : x0.length ≤ 9223372036854775807) : ∀ (d n : Nat) (x3 : List Fl), n + d = x0.length → x3.length = x0.length → x3.take n = x0.take n → Ev (fun k => laws_toFloat64S.l0 k x0 x3 (n : Int)) x0 := by
  intro d
  induction d with
  | zero =>
    intro n x3 hn hl ht
    refine ev_succ ?_
    simp only [laws_toFloat64S.l0]
    refine ev_neg (by omega) ?_
    have e : x3 = x0 := by rw [← List.take_of_length_le (l := x3) (i := n) (by omega), ht, List.take_of_length_le (by omega)]
    rw [e]
    exact Ev.now _
  | succ d ih =>
    intro n x3 hn hl ht
    refine ev_succ ?_
    simp only [laws_toFloat64S.l0, rdf_n, Int.toNat_natCast]
    refine ev_pos (by omega) (ev_pos (by omega) (ev_pos (by omega) ?_))
    rw [w64_succ (m := x0.length) (by omega) hx]
    exact ih (n + 1) _ (by omega) (by simpa using hl) (take_set_succ _ (by omega) hl ht)
theorem toF64S_ev (l : List Fl) (h : l.length ≤ 1048576) : Ev (fun k => laws_toFloat64S.f k l) l := by
  unfold laws_toFloat64S.f
  refine ev_pos (by omega) (ev_pos (by omega) ?_)
  exact toF64S_loop l (by omega) l.length 0 _ (by omega) (by simp) (by simp)
theorem eqF64S_loop (x0 : List Fl) (hx : x0.length ≤ 9223372036854775807) : ∀ (d n : Nat), n + d = x0.length → Ev (fun k => laws_eqFloat64S.l0 k x0 x0 (n : Int)) true := by
  intro d
  induction d with
  | zero =>
    intro n hn
    refine ev_succ ?_
    simp only [laws_eqFloat64S.l0]
    exact ev_neg (by omega) (Ev.now _)
  | succ d ih =>
    intro n hn
    refine ev_succ ?_
    simp only [laws_eqFloat64S.l0]
    refine ev_pos (by omega) (ev_pos (by omega) (ev_pos (by omega) (Ev.bind (sameFloat_ev _) (ev_pos (by trivial) ?_))))
    rw [w64_succ (m := x0.length) (by omega) hx]
    exact ih (n + 1) (by omega)
theorem eqF64S_ev (l : List Fl) (h : l.length ≤ 9223372036854775807) : Ev (fun k => laws_eqFloat64S.f k l l) true := by
  unfold laws_eqFloat64S.f
  exact ev_pos (by trivial) (eqF64S_loop l h l.length 0 (by omega))

def marks_F64 (m : Int) (n : Nat) : List Fl := (List.range n).map fun (i : Nat) => fint .f64 (m + i)
theorem markF64S_loop (N : Nat) (hN : N ≤ 100000000) (m0 : Int) (hm0 : 0 ≤ m0) (hm1 : m0 ≤ 100000000) : ∀ (d n : Nat) (x0 : List Fl) (m : Int), n + d = N → x0.length = N → m = m0 + n → x0.take n = (marks_F64 m0 N).take n → Ev (fun k => laws_markFloat64S.l0 k x0 m (n : Int)) (m0 + N, marks_F64 m0 N) := by
  intro d
  induction d with
  | zero =>
    intro n x0 m hn hl hm ht
    refine ev_succ ?_
    simp only [laws_markFloat64S.l0]
    refine ev_neg (by omega) ?_
    have e : x0 = marks_F64 m0 N := by rw [← List.take_of_length_le (l := x0) (i := n) (by omega), ht, List.take_of_length_le (by simp [marks_F64]; omega)]
    rw [e, hm, show n = N by omega]
    exact Ev.now _
  | succ d ih =>
    intro n x0 m hn hl hm ht
    refine ev_succ ?_
    simp only [laws_markFloat64S.l0, Int.toNat_natCast]
    refine ev_pos (by omega) (ev_pos (by omega) ?_)
    have key := ih (n + 1) (x0.set n (fint .f64 m)) (m + 1) (by omega) (by simpa using hl) (by omega) (by
      have := take_set_succ (cn .f64 0) (x0 := marks_F64 m0 N) (x3 := x0) (n := n) (by simp [marks_F64]; omega) (by simp [marks_F64]; omega) ht
      rw [show (marks_F64 m0 N).getD n (cn .f64 0) = fint .f64 m by
        simp only [marks_F64, List.getD_eq_getElem?_getD, List.getElem?_map, List.getElem?_range (show n < N by omega), Option.map_some, Option.getD_some, hm]] at this
      exact this)
    rw [w64_succ (m := N) (n := n) (by omega) (by omega), w64 (x := m + 1) (by omega) (by omega)]
    exact key
theorem markF64S_ev (l : List Fl) (h : l.length ≤ 100000000) (m : Int) (h0 : 0 ≤ m) (h1 : m ≤ 100000000) : Ev (fun k => laws_markFloat64S.f k l m) (m + l.length, marks_F64 m l.length) := by
  unfold laws_markFloat64S.f
  exact markF64S_loop l.length h m h0 h1 l.length 0 l m (by omega) rfl (by omega) (by simp)

theorem heldF64S_loop (N : Nat) (hN : N ≤ 100000000) (m0 : Int) (hm0 : 0 ≤ m0) (hm1 : m0 ≤ 100000000) : ∀ (d n : Nat) (m : Int), n + d = N → m = m0 + n → Ev (fun k => laws_heldFloat64S.l0 k (marks_F64 m0 N) m (n : Int)) (m0 + N) := by
  intro d
  have hL : (marks_F64 m0 N).length = N := by simp [marks_F64]
  induction d with
  | zero =>
    intro n m hn hm
    refine ev_succ ?_
    simp only [laws_heldFloat64S.l0, hL]
    refine ev_neg (by omega) ?_
    rw [hm, show n = N by omega]
    exact Ev.now _
  | succ d ih =>
    intro n m hn hm
    refine ev_succ ?_
    have e : (marks_F64 m0 N).getD n (cn .f64 0) = fint .f64 m := by
      simp only [marks_F64, List.getD_eq_getElem?_getD, List.getElem?_map, List.getElem?_range (show n < N by omega), Option.map_some, Option.getD_some, hm]
    simp only [laws_heldFloat64S.l0, hL, rdf_n, e, fint_ne]
    refine ev_pos (by omega) (ev_pos (by omega) (ev_neg (by decide) ?_))
    rw [w64_succ (m := N) (n := n) (by omega) (by omega), w64 (x := m + 1) (by omega) (by omega)]
    exact ih (n + 1) (m + 1) (by omega) (by omega)
theorem heldF64S_ev (N : Nat) (h : N ≤ 100000000) (m : Int) (h0 : 0 ≤ m) (h1 : m ≤ 100000000) : Ev (fun k => laws_heldFloat64S.f k (marks_F64 m N) m) (m + N) := by
  unfold laws_heldFloat64S.f
  exact heldF64S_loop N h m h0 h1 N 0 m (by omega) (by omega)

def good (x : Fl) : Bool := fcmp .eql .f64 x x
theorem nan_good (x : Fl) : fcmp .neq .f64 x x = !good x := rfl
theorem nan_none : (cn .f64 9221120237041090561 : Fl) = none := by kernel_rfl
theorem quo_none : fop .quo .f64 (cn .f64 0) (cn .f64 0) = none := by kernel_rfl
def at_ (l : List Fl) (n : Nat) : Fl := l.getD n (cn .f64 0)
theorem first_loop (l : List Fl) (hl : l.length ≤ 60) : ∀ (d n : Nat), n + d = l.length → ∃ r : Int, Ev (fun k => slices_IndexFunc_float64_float64.l0 k l (l.length : Int) (n : Int)) r ∧
    ((r = -1 ∧ ∀ j, n ≤ j → j < l.length → good (at_ l j) = false) ∨ ∃ m : Nat, r = m ∧ n ≤ m ∧ m < l.length ∧ good (at_ l m) = true ∧ ∀ j, n ≤ j → j < m → good (at_ l j) = false) := by
  intro d
  induction d with
  | zero =>
    intro n hn
    refine ⟨-1, ev_succ ?_, .inl ⟨rfl, fun j h1 h2 => by omega⟩⟩
    simp only [slices_IndexFunc_float64_float64.l0]
    exact ev_neg (by omega) (Ev.now _)
  | succ d ih =>
    intro n hn
    have hw := w64_succ (n := n) (m := l.length) (by omega) (by omega)
    cases hg : good (at_ l n) with
    | true =>
      refine ⟨(n : Int), ev_succ ?_, .inr ⟨n, rfl, Nat.le_refl _, by omega, hg, fun j h1 h2 => by omega⟩⟩
      simp only [slices_IndexFunc_float64_float64.l0, impl_Smooth_1.f, math_IsNaN.f, Option.bind_some, rdf_n, nan_good]
      rw [show good (l.getD n (cn .f64 0)) = true from hg]
      exact ev_pos (by omega) (ev_pos (by omega) (ev_pos (by omega) (ev_pos (by trivial) (Ev.now _))))
    | false =>
      obtain ⟨r, a, b⟩ := ih (n + 1) (by omega)
      refine ⟨r, ev_succ ?_, ?_⟩
      · simp only [slices_IndexFunc_float64_float64.l0, impl_Smooth_1.f, math_IsNaN.f, Option.bind_some, rdf_n, nan_good, hw]
        rw [show good (l.getD n (cn .f64 0)) = false from hg]
        exact ev_pos (by omega) (ev_pos (by omega) (ev_pos (by omega) (ev_neg (by decide) a)))
      · rcases b with ⟨b1, b2⟩ | ⟨m, b1, b2, b3, b4, b5⟩
        · refine .inl ⟨b1, fun j h1 h2 => ?_⟩
          by_cases c : j = n
          · subst c; exact hg
          · exact b2 j (by omega) h2
        · refine .inr ⟨m, b1, by omega, b3, b4, fun j h1 h2 => ?_⟩
          by_cases c : j = n
          · subst c; exact hg
          · exact b5 j (by omega) h2
theorem seen_loop (l : List Fl) (hl : l.length ≤ 60) (p : Fl) : ∀ (d n : Nat) (o : List Fl) (y : Fl), n + d = l.length → o.length = n → ∃ r : List Fl × Bool, r.1.length ≤ 60 ∧ Ev (fun k => spec_Smooth.l0 k l p o true y none (n : Int)) r ∧ Ev (fun k => impl_Smooth.l0 k p y o true l (l.length : Int) (n : Int)) r := by
  intro d
  induction d with
  | zero =>
    intro n o y hn ho
    refine ⟨(o, true), by show o.length ≤ 60; omega, ev_succ ?_, ev_succ ?_⟩
    · simp only [spec_Smooth.l0]
      exact ev_neg (by omega) (Ev.now _)
    · simp only [impl_Smooth.l0]
      exact ev_neg (by omega) (Ev.now _)
  | succ d ih =>
    intro n o y hn ho
    have hw := w64_succ (n := n) (m := l.length) (by omega) (by omega)
    cases hg : good (at_ l n) with
    | true =>
      obtain ⟨r, h0, h1, h2⟩ := ih (n + 1) (o ++ [fop .add .f64 y (fop .mul .f64 (fop .sub .f64 (at_ l n) y) p)]) (fop .add .f64 y (fop .mul .f64 (fop .sub .f64 (at_ l n) y) p)) (by omega) (by simp; omega)
      refine ⟨r, h0, ev_succ ?_, ev_succ ?_⟩
      · simp only [spec_Smooth.l0, Option.bind_some, rdf_n, hw]
        exact ev_pos (by omega) (ev_pos (by omega) (ev_pos hg (ev_pos (by trivial) (ev_pos (by omega) h1))))
      · simp only [impl_Smooth.l0, math_IsNaN.f, Option.bind_some, rdf_n, nan_good]
        rw [show good (l.getD n (cn .f64 0)) = true from hg]
        refine ev_pos (by omega) (ev_pos (by omega) (ev_pos (by omega) (ev_neg (by decide) (ev_succ ?_))))
        simp only [impl_Smooth.j2, hw]
        exact ev_pos (by trivial) (ev_pos (by omega) h2)
    | false =>
      obtain ⟨r, h0, h1, h2⟩ := ih (n + 1) (o ++ [y]) y (by omega) (by simp; omega)
      refine ⟨r, h0, ev_succ ?_, ev_succ ?_⟩
      · simp only [spec_Smooth.l0, Option.bind_some, rdf_n, hw]
        exact ev_pos (by omega) (ev_pos (by omega) (ev_neg (by intro h; have h' : good (at_ l n) = true := h; rw [hg] at h'; cases h') (ev_pos (by trivial) (ev_pos (by omega) h1))))
      · simp only [impl_Smooth.l0, math_IsNaN.f, Option.bind_some, rdf_n, nan_good]
        rw [show good (l.getD n (cn .f64 0)) = false from hg]
        refine ev_pos (by omega) (ev_pos (by omega) (ev_pos (by omega) (ev_pos (by trivial) (ev_succ ?_))))
        simp only [impl_Smooth.j2, hw]
        exact ev_pos (by trivial) (ev_pos (by omega) h2)
def First (l : List Fl) (n : Nat) (v : Fl) : Prop := ∀ m, n ≤ m → m < l.length → good (at_ l m) = true → (∀ j, n ≤ j → j < m → good (at_ l j) = false) → at_ l m = v
theorem unseen_loop (l : List Fl) (hl : l.length ≤ 60) (p : Fl) : ∀ (d n : Nat) (o : List Fl) (y v : Fl), n + d = l.length → o.length = n → First l n v → ∃ r : List Fl × Bool, r.1.length ≤ 60 ∧ Ev (fun k => spec_Smooth.l0 k l p o false y none (n : Int)) r ∧ Ev (fun k => impl_Smooth.l0 k p v o false l (l.length : Int) (n : Int)) r := by
  intro d
  induction d with
  | zero =>
    intro n o y v hn ho hf
    refine ⟨(o, true), by show o.length ≤ 60; omega, ev_succ ?_, ev_succ ?_⟩
    · simp only [spec_Smooth.l0]
      exact ev_neg (by omega) (Ev.now _)
    · simp only [impl_Smooth.l0]
      exact ev_neg (by omega) (Ev.now _)
  | succ d ih =>
    intro n o y v hn ho hf
    have hw := w64_succ (n := n) (m := l.length) (by omega) (by omega)
    cases hg : good (at_ l n) with
    | true =>
      have hv := hf n (Nat.le_refl _) (by omega) hg (fun j h1 h2 => by omega)
      subst hv
      obtain ⟨r, h0, h1, h2⟩ := seen_loop l hl p d (n + 1) (o ++ [fop .add .f64 (at_ l n) (fop .mul .f64 (fop .sub .f64 (at_ l n) (at_ l n)) p)]) (fop .add .f64 (at_ l n) (fop .mul .f64 (fop .sub .f64 (at_ l n) (at_ l n)) p)) (by omega) (by simp; omega)
      refine ⟨r, h0, ev_succ ?_, ev_succ ?_⟩
      · simp only [spec_Smooth.l0, Option.bind_some, rdf_n, hw]
        exact ev_pos (by omega) (ev_pos (by omega) (ev_pos hg (ev_neg (by decide) (ev_pos (by omega) h1))))
      · simp only [impl_Smooth.l0, math_IsNaN.f, Option.bind_some, rdf_n, nan_good]
        rw [show good (l.getD n (cn .f64 0)) = true from hg]
        refine ev_pos (by omega) (ev_pos (by omega) (ev_pos (by omega) (ev_neg (by decide) (ev_succ ?_))))
        simp only [impl_Smooth.j2, hw]
        exact ev_pos (by trivial) (ev_pos (by omega) h2)
    | false =>
      obtain ⟨r, h0, h1, h2⟩ := ih (n + 1) (o ++ [none]) y v (by omega) (by simp; omega) (by
        intro m a b c e
        refine hf m (by omega) b c (fun j h1 h2 => ?_)
        by_cases q : j = n
        · subst q; exact hg
        · exact e j (by omega) h2)
      refine ⟨r, h0, ev_succ ?_, ev_succ ?_⟩
      · simp only [spec_Smooth.l0, Option.bind_some, rdf_n, hw]
        exact ev_pos (by omega) (ev_pos (by omega) (ev_neg (by intro h; have h' : good (at_ l n) = true := h; rw [hg] at h'; cases h') (ev_neg (by decide) (ev_pos (by omega) h1))))
      · simp only [impl_Smooth.l0, math_IsNaN.f, Option.bind_some, rdf_n, nan_good]
        rw [show good (l.getD n (cn .f64 0)) = false from hg]
        refine ev_pos (by omega) (ev_pos (by omega) (ev_pos (by omega) (ev_pos (by trivial) (ev_succ ?_))))
        simp only [impl_Smooth.j2, math_NaN.f, nan_none, Option.bind_some, hw]
        exact ev_neg (by decide) (ev_pos (by omega) h2)
theorem smooth_both (l : List Fl) (p : Fl) : ∃ r : List Fl × Bool, r.1.length ≤ 60 ∧ Ev (fun k => spec_Smooth.f k l p) r ∧ Ev (fun k => impl_Smooth.f k l p) r := by
  unfold spec_Smooth.f impl_Smooth.f
  simp only [spec_l5NaN.f, math_NaN.f, quo_none, nan_none, Option.bind_some]
  by_cases hl : (l.length : Int) > 60
  · exact ⟨([], false), Nat.zero_le _, ev_pos hl (Ev.now _), ev_pos hl (Ev.now _)⟩
  obtain ⟨r, a, b⟩ := first_loop l (by omega) l.length 0 (by omega)
  rcases b with ⟨b1, b2⟩ | ⟨m, b1, b2, b3, b4, b5⟩
  · obtain ⟨R, h0, h1, h2⟩ := unseen_loop l (by omega) p l.length 0 [] (cn .f64 0) none (by omega) rfl (fun m _ h2 h3 _ => by rw [b2 m (by omega) h2] at h3; cases h3)
    refine ⟨R, h0, ev_neg hl h1, ev_neg hl (Ev.bind (g := fun k => slices_IndexFunc_float64_float64.f k l ()) a (ev_neg (by omega) (ev_succ ?_)))⟩
    simp only [impl_Smooth.j0]
    exact h2
  · obtain ⟨R, h0, h1, h2⟩ := unseen_loop l (by omega) p l.length 0 [] (cn .f64 0) (at_ l m) (by omega) rfl (fun q _ h2 h3 h4 => by
      have : q = m := by
        rcases Nat.lt_trichotomy q m with c | c | c
        · rw [b5 q (by omega) c] at h3; cases h3
        · exact c
        · rw [h4 m (by omega) c] at b4; cases b4
      rw [this])
    subst b1
    refine ⟨R, h0, ev_neg hl h1, ev_neg hl (Ev.bind (g := fun k => slices_IndexFunc_float64_float64.f k l ()) a (ev_pos (by omega) (ev_pos (by omega) (ev_pos (by omega) (ev_succ ?_)))))⟩
    simp only [impl_Smooth.j0, rdf_n]
    exact h2
theorem FnExactSmooth : laws_FnExactSmooth.PureR := by
  intro l p hx
  refine Ev.rounds ?_
  unfold laws_FnExactSmooth.f
  by_cases hb : (l.length : Int) > 1048576
  · exact ev_pos hb (Ev.now _)
  refine ev_neg hb ?_
  obtain ⟨⟨r, c⟩, hr, h1, h2⟩ := smooth_both l p
  have hr' : r.length ≤ 60 := hr
  have ht := toF64S_ev l (by omega)
  have he := eqF64S_ev r (by omega)
  have he1 := eqF64S_ev l (by omega)
  have hm := markF64S_ev l (by omega) 1 (by omega) (by omega)
  have hi := markF64S_ev r (by omega) 1 (by omega) (by omega)
  have hh := heldF64S_ev r.length (by omega) 1 (by omega) (by omega)
  refine Ev.bind ht (Ev.bind h1 (Ev.bind ht (Ev.bind h2 (Ev.bind he (ev_pos (by trivial) (ev_succ ?_))))))
  simp only [laws_FnExactSmooth.j0]
  refine ev_neg (by simp) (Ev.bind ht (Ev.bind he1 (ev_pos (by trivial) (Ev.bind hm (ev_neg (by simp; omega) (Ev.bind he (ev_pos (by trivial) (ev_succ ?_))))))))
  simp only [laws_FnExactSmooth.j1]
  refine ev_neg (by simp) (Ev.bind hi (Ev.bind hh (ev_neg (by omega) (ev_pos (by trivial) (Ev.bind ht (Ev.bind h2 (Ev.bind he (ev_pos (by trivial) (ev_succ ?_)))))))))
  simp only [laws_FnExactSmooth.j2]
  exact ev_neg (by simp) (Ev.bind hh (ev_neg (by omega) (ev_pos (by trivial) (Ev.now _))))

end Go.Proofs.Ytfopdbdamkfglaa.Pure
