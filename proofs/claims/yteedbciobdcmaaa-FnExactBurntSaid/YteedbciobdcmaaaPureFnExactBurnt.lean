/- Proved here: the program's and the reference's Burnt are the same function of the tanks and the plan, and share no memory; no condition. -/
import Derived.Test.YteedbciobdcmaaaPureDefFnExactBurnt
namespace Go.Proofs.Yteedbciobdcmaaa.Pure
open Go.RowKit Go.Proofs.Yteedbciobdcmaaa.QFnExactBurnt Go.Proofs.YteedbciobdcmaaaW.PrintWords Go.Proofs.YteedbciobdcmaaaW.PrintLast Go.Proofs.YteedbciobdcmaaaW.PrintMore
set_option linter.unusedVariables false
set_option linter.unusedSimpArgs false

theorem ev_pos {c : Prop} [Decidable c] {α : Type} {A B : Nat → Option α} {r : α} (h : c) (k : Ev A r) : Ev (fun n => if c then A n else B n) r := by
  simpa only [if_pos h] using k
theorem ev_neg {c : Prop} [Decidable c] {α : Type} {A B : Nat → Option α} {r : α} (h : ¬ c) (k : Ev B r) : Ev (fun n => if c then A n else B n) r := by
  simpa only [if_neg h] using k
theorem ev_succ {α : Type} {g : Nat → Option α} {r : α} (h : Ev (fun k => g (k + 1)) r) : Ev g r := Ev.step (fun _ => rfl) h
theorem ex_succ {α : Type} {g : Nat → Option α} (h : ∃ r, Ev (fun k => g (k + 1)) r) : ∃ r, Ev g r := by
  obtain ⟨r, h⟩ := h
  exact ⟨r, ev_succ h⟩
theorem ev_one {α : Type} {g : Nat → Option α} {r q : α} (h : Ev g r) (h' : Ev g q) : r = q := by
  obtain ⟨K, hK⟩ := h
  obtain ⟨L, hL⟩ := h'
  have a := hK (max K L) (Nat.le_max_left _ _)
  have b := hL (max K L) (Nat.le_max_right _ _)
  exact Option.some.inj (a.symm.trans b)
theorem ev_bool {α : Type} {A B : Nat → Option α} {r : α} (b : Bool) (h1 : b = true → Ev A r) (h2 : b = false → Ev B r) : Ev (fun n => if b = true then A n else B n) r := by
  cases b with
  | true => exact ev_pos (by trivial) (h1 rfl)
  | false => exact ev_neg (by decide) (h2 rfl)
theorem bool_eq_of_iff {a b : Bool} {p : Prop} (h : a = true ↔ p) (h' : b = true ↔ p) : a = b := by
  rw [Bool.eq_iff_iff]
  exact h.trans h'.symm
theorem w64 {x : Int} (h0 : -9223372036854775808 ≤ x) (h1 : x ≤ 9223372036854775807) : wrap64 x = x := by
  unfold wrap64
  omega
theorem w64_succ {n m : Nat} (h : n < m) (hm : m ≤ 9223372036854775807) : wrap64 ((n : Int) + 1) = ((n + 1 : Nat) : Int) := by
  unfold wrap64
  omega
theorem rd_nat (l : List Int) (n : Nat) : rd l (n : Int) = l.getD n 0 := by
  unfold rd
  rw [Int.toNat_natCast]
theorem take_set_succ {α : Type} (d : α) {x0 x3 : List α} {n : Nat} (h : n < x0.length) (hl : x3.length = x0.length) (ht : x3.take n = x0.take n) : (x3.set n (x0.getD n d)).take (n + 1) = x0.take (n + 1) := by
  apply List.ext_getElem?
  intro i
  simp only [List.getElem?_take, List.getElem?_set]
  by_cases hi : i < n + 1
  · rw [if_pos hi, if_pos hi]
    by_cases he : n = i
    · subst he
      rw [if_pos rfl, if_pos (by omega), List.getD_eq_getElem?_getD, List.getElem?_eq_getElem h]
      rfl
    · rw [if_neg he]
      have := congrArg (fun l => l[i]?) ht
      simpa only [List.getElem?_take, if_pos (show i < n by omega)] using this
  · rw [if_neg hi, if_neg hi]
theorem u8_bounds {l : List Int} (h : ∀ x ∈ l, 0 ≤ x ∧ x ≤ 255) (n : Nat) : 0 ≤ l.getD n 0 ∧ l.getD n 0 ≤ 255 := by
  rw [List.getD_eq_getElem?_getD]
  cases e : l[n]? with
  | none => simp
  | some x =>
    exact h x (List.mem_of_getElem? e)
theorem getD_map {α β : Type} (c : α → β) (l : List α) (n : Nat) (d : α) : (l.map c).getD n (c d) = c (l.getD n d) := by
  simp only [List.getD_eq_getElem?_getD, List.getElem?_map]
  cases l[n]? <;> rfl
/-- It ends, with true just where p holds. -/
def EvB (g : Nat → Option Bool) (p : Prop) : Prop := ∃ b, Ev g b ∧ (b = true ↔ p)
theorem EvB.iff {g : Nat → Option Bool} {p q : Prop} (h : EvB g p) (h' : p ↔ q) : EvB g q := by
  obtain ⟨b, hb, ib⟩ := h
  exact ⟨b, hb, ib.trans h'⟩
theorem EvB.dec {c : Prop} [Decidable c] : EvB (fun _ => some (decide c)) c := ⟨decide c, Ev.now _, decide_eq_true_iff⟩
theorem EvB.ite {c : Prop} [Decidable c] {A : Nat → Option Bool} {p : Prop} (h : EvB A p) : EvB (fun n => if c then A n else some false) (c ∧ p) := by
  obtain ⟨b, hb, ib⟩ := h
  by_cases hc : c
  · exact ⟨b, ev_pos hc hb, ⟨fun h => ⟨hc, ib.1 h⟩, fun h => ib.2 h.2⟩⟩
  · exact ⟨false, ev_neg hc (Ev.now _), ⟨fun h => (Bool.false_ne_true h).elim, fun h => absurd h.1 hc⟩⟩
theorem EvB.ite_not {c : Prop} [Decidable c] {A : Nat → Option Bool} {p : Prop} (h : EvB A p) : EvB (fun n => if c then some false else A n) (¬ c ∧ p) := by
  obtain ⟨b, hb, ib⟩ := h
  by_cases hc : c
  · exact ⟨false, ev_pos hc (Ev.now _), ⟨fun h => (Bool.false_ne_true h).elim, fun h => absurd hc h.1⟩⟩
  · exact ⟨b, ev_neg hc hb, ⟨fun h => ⟨hc, ib.1 h⟩, fun h => ib.2 h.2⟩⟩
theorem EvB.bind {g A : Nat → Option Bool} {p q : Prop} (h : EvB g p) (h' : EvB A q) : EvB (fun n => (g n).bind fun t => if t = true then A n else some false) (p ∧ q) := by
  obtain ⟨b, hb, ib⟩ := h
  obtain ⟨c, hc, ic⟩ := h'
  cases b with
  | true => exact ⟨c, Ev.bind hb (ev_pos rfl hc), ⟨fun h => ⟨ib.1 rfl, ic.1 h⟩, fun h => ic.2 h.2⟩⟩
  | false => exact ⟨false, Ev.bind hb (ev_neg (by decide) (Ev.now _)), ⟨fun h => (Bool.false_ne_true h).elim, fun h => absurd (ib.2 h.1) (by decide)⟩⟩
theorem EvB.last {g : Nat → Option Bool} {p : Prop} (h : EvB g p) : EvB (fun n => (g n).bind fun t => some t) p := by
  obtain ⟨b, hb, ib⟩ := h
  exact ⟨b, Ev.bind hb (Ev.now _), ib⟩
theorem EvB.same {g g' : Nat → Option Bool} {p : Prop} (h : EvB g p) (h' : EvB g' p) : ∃ b, Ev g b ∧ Ev g' b ∧ (b = true ↔ p) := by
  obtain ⟨b, hb, ib⟩ := h
  obtain ⟨c, hc, ic⟩ := h'
  obtain rfl : c = b := bool_eq_of_iff ic ib
  exact ⟨c, hb, hc, ib⟩
theorem EvB.bindE {g A B : Nat → Option Bool} {p q : Prop} (hB : Ev B false) (h : EvB g p) (h' : EvB A q) : EvB (fun n => (g n).bind fun t => if t = true then A n else B n) (p ∧ q) := by
  obtain ⟨b, hb, ib⟩ := h
  obtain ⟨c, hc, ic⟩ := h'
  cases b with
  | true => exact ⟨c, Ev.bind hb (ev_pos rfl hc), ⟨fun h => ⟨ib.1 rfl, ic.1 h⟩, fun h => ic.2 h.2⟩⟩
  | false => exact ⟨false, Ev.bind hb (ev_neg (by decide) hB), ⟨fun h => (Bool.false_ne_true h).elim, fun h => absurd (ib.2 h.1) (by decide)⟩⟩
theorem EvB.iteE {c : Prop} [Decidable c] {A B : Nat → Option Bool} {p : Prop} (hB : Ev B false) (h : EvB A p) : EvB (fun n => if c then A n else B n) (c ∧ p) := by
  obtain ⟨b, hb, ib⟩ := h
  by_cases hc : c
  · exact ⟨b, ev_pos hc hb, ⟨fun h => ⟨hc, ib.1 h⟩, fun h => ib.2 h.2⟩⟩
  · exact ⟨false, ev_neg hc hB, ⟨fun h => (Bool.false_ne_true h).elim, fun h => absurd h.1 hc⟩⟩
theorem EvB.bindN {g : Nat → Option Bool} {J : Nat → Bool → Option Bool} {p q : Prop} (hB : Ev (fun n => J n true) false) (h : EvB g p) (h' : EvB (fun n => J n false) q) : EvB (fun n => (g n).bind fun t => J n (!t)) (p ∧ q) := by
  obtain ⟨b, hb, ib⟩ := h
  obtain ⟨c, hc, ic⟩ := h'
  cases b with
  | true => exact ⟨c, Ev.bind hb hc, ⟨fun h => ⟨ib.1 rfl, ic.1 h⟩, fun h => ic.2 h.2⟩⟩
  | false => exact ⟨false, Ev.bind hb hB, ⟨fun h => (Bool.false_ne_true h).elim, fun h => absurd (ib.2 h.1) (by decide)⟩⟩
theorem EvB.succ {g : Nat → Option Bool} {p : Prop} (h : EvB (fun k => g (k + 1)) p) : EvB g p := by
  obtain ⟨b, hb, ib⟩ := h
  exact ⟨b, ev_succ hb, ib⟩
theorem EvB.true_ {p : Prop} (h : p) : EvB (fun _ => some true) p := ⟨true, Ev.now _, ⟨fun _ => h, fun _ => rfl⟩⟩
theorem EvB.false_ {p : Prop} (h : ¬ p) : EvB (fun _ => some false) p := ⟨false, Ev.now _, ⟨fun e => (Bool.false_ne_true e).elim, fun e => absurd e h⟩⟩
theorem EvB.pos {c : Prop} [Decidable c] {A B : Nat → Option Bool} {p : Prop} (hc : c) (h : EvB A p) : EvB (fun n => if c then A n else B n) p := by
  simpa only [if_pos hc] using h
theorem EvB.neg {c : Prop} [Decidable c] {A B : Nat → Option Bool} {p : Prop} (hc : ¬ c) (h : EvB B p) : EvB (fun n => if c then A n else B n) p := by
  simpa only [if_neg hc] using h

theorem szFuelTankS_eq (l : List S68) (m : Int) (h0 : 0 ≤ m) (h1 : m ≤ 1048576) (hl : l.length ≤ 9223372036854775807) : laws_szFuelTankS.f l m = some (if m - l.length < 0 then -1 else m - l.length) := by
  unfold laws_szFuelTankS.f
  rw [w64 (x := m - (l.length : Int)) (by omega) (by omega)]
  by_cases h : m - (l.length : Int) < 0
  · rw [if_pos h, if_pos h]
  · rw [if_neg h, if_neg h]

theorem szBurnS_eq (l : List S70) (m : Int) (h0 : 0 ≤ m) (h1 : m ≤ 1048576) (hl : l.length ≤ 9223372036854775807) : laws_szBurnS.f l m = some (if m - l.length < 0 then -1 else m - l.length) := by
  unfold laws_szBurnS.f
  rw [w64 (x := m - (l.length : Int)) (by omega) (by omega)]
  by_cases h : m - (l.length : Int) < 0
  · rw [if_pos h, if_pos h]
  · rw [if_neg h, if_neg h]

def c_FuelTank (x : S68) : S60 := ⟨x.f0, x.f1⟩
theorem toFuelTankS_loop (x0 : List S68) (hx : x0.length ≤ 9223372036854775807) : ∀ (d n : Nat) (x3 : List S60), n + d = x0.length → x3.length = x0.length → x3.take n = (x0.map c_FuelTank).take n → Ev (fun k => laws_toFuelTankS.l0 k x0 x3 (n : Int)) (x0.map c_FuelTank) := by
  intro d
  induction d with
  | zero =>
    intro n x3 hn hl ht
    refine ev_succ ?_
    simp only [laws_toFuelTankS.l0]
    refine ev_neg (by omega) ?_
    have e : x3 = x0.map c_FuelTank := by rw [← List.take_of_length_le (l := x3) (i := n) (by omega), ht, List.take_of_length_le (by simp; omega)]
    rw [e]
    exact Ev.now _
  | succ d ih =>
    intro n x3 hn hl ht
    have e : (⟨(rd_T68 x0 (n : Int)).f0, (rd_T68 x0 (n : Int)).f1⟩ : S60) = (x0.map c_FuelTank).getD n (c_FuelTank z68) := by
      rw [getD_map]
      simp [rd_T68, c_FuelTank]
    refine ev_succ ?_
    simp only [laws_toFuelTankS.l0, laws_toFuelTank.f, Option.bind_some, Int.toNat_natCast]
    refine ev_pos (by omega) (ev_pos (by omega) (ev_pos (by omega) ?_))
    rw [e, w64_succ (m := x0.length) (by omega) hx]
    exact ih (n + 1) _ (by omega) (by simpa using hl) (take_set_succ _ (by simp; omega) (by simpa using hl) ht)
theorem toFuelTankS_ev (l : List S68) (h : l.length ≤ 1048576) : Ev (fun k => laws_toFuelTankS.f k l) (l.map c_FuelTank) := by
  unfold laws_toFuelTankS.f
  refine ev_pos (by omega) (ev_pos (by omega) ?_)
  exact toFuelTankS_loop l (by omega) l.length 0 _ (by omega) (by simp) (by simp)

def c_Burn (x : S70) : S62 := ⟨x.f0, x.f1⟩
theorem toBurnS_loop (x0 : List S70) (hx : x0.length ≤ 9223372036854775807) : ∀ (d n : Nat) (x3 : List S62), n + d = x0.length → x3.length = x0.length → x3.take n = (x0.map c_Burn).take n → Ev (fun k => laws_toBurnS.l0 k x0 x3 (n : Int)) (x0.map c_Burn) := by
  intro d
  induction d with
  | zero =>
    intro n x3 hn hl ht
    refine ev_succ ?_
    simp only [laws_toBurnS.l0]
    refine ev_neg (by omega) ?_
    have e : x3 = x0.map c_Burn := by rw [← List.take_of_length_le (l := x3) (i := n) (by omega), ht, List.take_of_length_le (by simp; omega)]
    rw [e]
    exact Ev.now _
  | succ d ih =>
    intro n x3 hn hl ht
    have e : (⟨(rd_T70 x0 (n : Int)).f0, (rd_T70 x0 (n : Int)).f1⟩ : S62) = (x0.map c_Burn).getD n (c_Burn z70) := by
      rw [getD_map]
      simp [rd_T70, c_Burn]
    refine ev_succ ?_
    simp only [laws_toBurnS.l0, laws_toBurn.f, Option.bind_some, Int.toNat_natCast]
    refine ev_pos (by omega) (ev_pos (by omega) (ev_pos (by omega) ?_))
    rw [e, w64_succ (m := x0.length) (by omega) hx]
    exact ih (n + 1) _ (by omega) (by simpa using hl) (take_set_succ _ (by simp; omega) (by simpa using hl) ht)
theorem toBurnS_ev (l : List S70) (h : l.length ≤ 1048576) : Ev (fun k => laws_toBurnS.f k l) (l.map c_Burn) := by
  unfold laws_toBurnS.f
  refine ev_pos (by omega) (ev_pos (by omega) ?_)
  exact toBurnS_loop l (by omega) l.length 0 _ (by omega) (by simp) (by simp)

theorem eqFuelTank_eq (a0 : Int) (a1 : Int) : laws_eqFuelTank.f a0 a1 a0 a1 = some true := by
  simp [laws_eqFuelTank.f]
theorem eqFuelTankS_loop (x0 : List S60) (hx : x0.length ≤ 9223372036854775807) : ∀ (d n : Nat), n + d = x0.length → Ev (fun k => laws_eqFuelTankS.l0 k x0 x0 (n : Int)) true := by
  intro d
  induction d with
  | zero =>
    intro n hn
    refine ev_succ ?_
    simp only [laws_eqFuelTankS.l0]
    exact ev_neg (by omega) (Ev.now _)
  | succ d ih =>
    intro n hn
    refine ev_succ ?_
    simp only [laws_eqFuelTankS.l0, eqFuelTank_eq, Option.bind_some]
    refine ev_pos (by omega) (ev_pos (by omega) (ev_pos (by omega) (ev_pos (by trivial) ?_)))
    rw [w64_succ (m := x0.length) (by omega) hx]
    exact ih (n + 1) (by omega)
theorem eqFuelTankS_ev (l : List S60) (h : l.length ≤ 9223372036854775807) : Ev (fun k => laws_eqFuelTankS.f k l l) true := by
  unfold laws_eqFuelTankS.f
  exact ev_pos (by trivial) (eqFuelTankS_loop l h l.length 0 (by omega))

theorem eqBurn_eq (a0 : Int) (a1 : Int) : laws_eqBurn.f a0 a1 a0 a1 = some true := by
  simp [laws_eqBurn.f]
theorem eqBurnS_loop (x0 : List S62) (hx : x0.length ≤ 9223372036854775807) : ∀ (d n : Nat), n + d = x0.length → Ev (fun k => laws_eqBurnS.l0 k x0 x0 (n : Int)) true := by
  intro d
  induction d with
  | zero =>
    intro n hn
    refine ev_succ ?_
    simp only [laws_eqBurnS.l0]
    exact ev_neg (by omega) (Ev.now _)
  | succ d ih =>
    intro n hn
    refine ev_succ ?_
    simp only [laws_eqBurnS.l0, eqBurn_eq, Option.bind_some]
    refine ev_pos (by omega) (ev_pos (by omega) (ev_pos (by omega) (ev_pos (by trivial) ?_)))
    rw [w64_succ (m := x0.length) (by omega) hx]
    exact ih (n + 1) (by omega)
theorem eqBurnS_ev (l : List S62) (h : l.length ≤ 9223372036854775807) : Ev (fun k => laws_eqBurnS.f k l l) true := by
  unfold laws_eqBurnS.f
  exact ev_pos (by trivial) (eqBurnS_loop l h l.length 0 (by omega))

def marks_FuelTank (m : Int) (n : Nat) : List S60 := (List.range n).map fun (i : Nat) => ⟨m + 2 * (i : Int), m + 2 * (i : Int) + 1⟩
theorem markFuelTankS_loop (N : Nat) (hN : N ≤ 100000000) (m0 : Int) (hm0 : 0 ≤ m0) (hm1 : m0 ≤ 100000000) : ∀ (d n : Nat) (x0 : List S60) (m : Int), n + d = N → x0.length = N → m = m0 + 2 * n → x0.take n = (marks_FuelTank m0 N).take n → Ev (fun k => laws_markFuelTankS.l0 k x0 m (n : Int)) (m0 + 2 * N, marks_FuelTank m0 N) := by
  intro d
  induction d with
  | zero =>
    intro n x0 m hn hl hm ht
    refine ev_succ ?_
    simp only [laws_markFuelTankS.l0]
    refine ev_neg (by omega) ?_
    have e : x0 = marks_FuelTank m0 N := by rw [← List.take_of_length_le (l := x0) (i := n) (by omega), ht, List.take_of_length_le (by simp [marks_FuelTank]; omega)]
    rw [e, hm, show n = N by omega]
    exact Ev.now _
  | succ d ih =>
    intro n x0 m hn hl hm ht
    refine ev_succ ?_
    simp only [laws_markFuelTankS.l0, Option.bind_some, Int.toNat_natCast]
    refine ev_pos (by omega) (ev_pos (by omega) ?_)
    have hlt : n < x0.length := by omega
    have e1 : ∀ x : S60, rd_T60 (x0.set n x) (n : Int) = x := by
      intro x
      unfold rd_T60
      rw [Int.toNat_natCast, List.getD_eq_getElem?_getD, List.getElem?_set_self hlt]
      rfl
    simp only [e1, List.set_set, w64_succ (m := N) (n := n) (by omega) (by omega)]
    have key := ih (n + 1) (x0.set n ⟨m, m + 1⟩) (m + 2) (by omega) (by simpa using hl) (by omega) (by
      have := take_set_succ z60 (x0 := marks_FuelTank m0 N) (x3 := x0) (n := n) (by simp [marks_FuelTank]; omega) (by simp [marks_FuelTank]; omega) ht
      rw [show (marks_FuelTank m0 N).getD n z60 = ⟨m, m + 1⟩ by
        simp only [marks_FuelTank, List.getD_eq_getElem?_getD, List.getElem?_map, List.getElem?_range (show n < N by omega), Option.map_some, Option.getD_some, hm]
        try (congr 1 <;> omega)] at this
      exact this)
    rw [w64 (x := m + 1) (by omega) (by omega), w64 (x := m + 1 + 1) (by omega) (by omega)]
    rw [show m + 1 + 1 = m + 2 by omega]
    exact key
theorem markFuelTankS_ev (l : List S60) (h : l.length ≤ 100000000) (m : Int) (h0 : 0 ≤ m) (h1 : m ≤ 100000000) : Ev (fun k => laws_markFuelTankS.f k l m) (m + 2 * l.length, marks_FuelTank m l.length) := by
  unfold laws_markFuelTankS.f
  exact markFuelTankS_loop l.length h m h0 h1 l.length 0 l m (by omega) rfl (by omega) (by simp)

def marks_Burn (m : Int) (n : Nat) : List S62 := (List.range n).map fun (i : Nat) => ⟨m + 2 * (i : Int), m + 2 * (i : Int) + 1⟩
theorem markBurnS_loop (N : Nat) (hN : N ≤ 100000000) (m0 : Int) (hm0 : 0 ≤ m0) (hm1 : m0 ≤ 100000000) : ∀ (d n : Nat) (x0 : List S62) (m : Int), n + d = N → x0.length = N → m = m0 + 2 * n → x0.take n = (marks_Burn m0 N).take n → Ev (fun k => laws_markBurnS.l0 k x0 m (n : Int)) (m0 + 2 * N, marks_Burn m0 N) := by
  intro d
  induction d with
  | zero =>
    intro n x0 m hn hl hm ht
    refine ev_succ ?_
    simp only [laws_markBurnS.l0]
    refine ev_neg (by omega) ?_
    have e : x0 = marks_Burn m0 N := by rw [← List.take_of_length_le (l := x0) (i := n) (by omega), ht, List.take_of_length_le (by simp [marks_Burn]; omega)]
    rw [e, hm, show n = N by omega]
    exact Ev.now _
  | succ d ih =>
    intro n x0 m hn hl hm ht
    refine ev_succ ?_
    simp only [laws_markBurnS.l0, Option.bind_some, Int.toNat_natCast]
    refine ev_pos (by omega) (ev_pos (by omega) ?_)
    have hlt : n < x0.length := by omega
    have e1 : ∀ x : S62, rd_T62 (x0.set n x) (n : Int) = x := by
      intro x
      unfold rd_T62
      rw [Int.toNat_natCast, List.getD_eq_getElem?_getD, List.getElem?_set_self hlt]
      rfl
    simp only [e1, List.set_set, w64_succ (m := N) (n := n) (by omega) (by omega)]
    have key := ih (n + 1) (x0.set n ⟨m, m + 1⟩) (m + 2) (by omega) (by simpa using hl) (by omega) (by
      have := take_set_succ z62 (x0 := marks_Burn m0 N) (x3 := x0) (n := n) (by simp [marks_Burn]; omega) (by simp [marks_Burn]; omega) ht
      rw [show (marks_Burn m0 N).getD n z62 = ⟨m, m + 1⟩ by
        simp only [marks_Burn, List.getD_eq_getElem?_getD, List.getElem?_map, List.getElem?_range (show n < N by omega), Option.map_some, Option.getD_some, hm]
        try (congr 1 <;> omega)] at this
      exact this)
    rw [w64 (x := m + 1) (by omega) (by omega), w64 (x := m + 1 + 1) (by omega) (by omega)]
    rw [show m + 1 + 1 = m + 2 by omega]
    exact key
theorem markBurnS_ev (l : List S62) (h : l.length ≤ 100000000) (m : Int) (h0 : 0 ≤ m) (h1 : m ≤ 100000000) : Ev (fun k => laws_markBurnS.f k l m) (m + 2 * l.length, marks_Burn m l.length) := by
  unfold laws_markBurnS.f
  exact markBurnS_loop l.length h m h0 h1 l.length 0 l m (by omega) rfl (by omega) (by simp)

theorem heldFuelTankS_loop (N : Nat) (hN : N ≤ 100000000) (m0 : Int) (hm0 : 0 ≤ m0) (hm1 : m0 ≤ 100000000) : ∀ (d n : Nat) (m : Int), n + d = N → m = m0 + 2 * n → Ev (fun k => laws_heldFuelTankS.l0 k (marks_FuelTank m0 N) m (n : Int)) (m0 + 2 * N) := by
  intro d
  have hL : (marks_FuelTank m0 N).length = N := by simp [marks_FuelTank]
  induction d with
  | zero =>
    intro n m hn hm
    refine ev_succ ?_
    simp only [laws_heldFuelTankS.l0, hL]
    refine ev_neg (by omega) ?_
    rw [hm, show n = N by omega]
    exact Ev.now _
  | succ d ih =>
    intro n m hn hm
    refine ev_succ ?_
    have e : rd_T60 (marks_FuelTank m0 N) (n : Int) = ⟨m, m + 1⟩ := by
      unfold rd_T60
      simp only [marks_FuelTank, Int.toNat_natCast, List.getD_eq_getElem?_getD, List.getElem?_map, List.getElem?_range (show n < N by omega), Option.map_some, Option.getD_some, hm]
      try (congr 2 <;> omega)
    simp only [laws_heldFuelTankS.l0, hL, e]
    rw [w64 (x := m + 1) (by omega) (by omega), w64 (x := m + 1 + 1) (by omega) (by omega), w64_succ (m := N) (n := n) (by omega) (by omega)]
    rw [show m + 1 + 1 = m + 2 by omega]
    exact ev_pos (by omega) (ev_pos (by omega) (by first | exact ih (n + 1) (m + 2) (by omega) (by omega) | exact ev_pos (by first | trivial | rfl | omega) (ih (n + 1) (m + 2) (by omega) (by omega)) | exact ev_pos (by first | trivial | rfl | omega) (ev_pos (by first | trivial | rfl | omega) (ih (n + 1) (m + 2) (by omega) (by omega)))))
theorem heldFuelTankS_ev (N : Nat) (h : N ≤ 100000000) (m : Int) (h0 : 0 ≤ m) (h1 : m ≤ 100000000) : Ev (fun k => laws_heldFuelTankS.f k (marks_FuelTank m N) m) (m + 2 * N) := by
  unfold laws_heldFuelTankS.f
  exact heldFuelTankS_loop N h m h0 h1 N 0 m (by omega) (by omega)

theorem sin (a b c : Int) : spec_l1In.f a b c = some (decide (b ≤ a ∧ a ≤ c)) := by
  unfold spec_l1In.f
  by_cases h : a ≥ b
  · rw [if_pos h]; simp [show b ≤ a from h]
  · rw [if_neg h]; simp [show ¬ b ≤ a from h]
theorem iin (a b c : Int) : impl_in.f a b c = some (decide (b ≤ a ∧ a ≤ c)) := by
  unfold impl_in.f
  by_cases h : a ≥ b
  · rw [if_pos h]; simp [show b ≤ a from h]
  · rw [if_neg h]; simp [show ¬ b ≤ a from h]
abbrev Tk := S60
abbrev Bn := S62
theorem tanks_loop (l : List Tk) (hl : l.length ≤ 1048576) : ∀ (d n : Nat), n + d = l.length → ∃ r : Int, Ev (fun k => impl_FuelTank_65.l0 k l (l.length : Int) (n : Int)) r ∧ Ev (fun k => spec_l2Tanks.l0 k l (n : Int)) (if (l.length : Int) ≤ 8 then !decide (r ≥ 0) else false) := by
  intro d
  induction d with
  | zero =>
    intro n hn
    refine ⟨-1, ev_succ ?_, ev_succ ?_⟩
    · simp only [impl_FuelTank_65.l0]
      exact ev_neg (by omega) (Ev.now _)
    · simp only [spec_l2Tanks.l0]
      refine ev_neg (by omega) ?_
      by_cases h : (l.length : Int) ≤ 8
      · rw [if_pos h, decide_eq_true h]; exact Ev.now _
      · rw [if_neg h, decide_eq_false h]; exact Ev.now _
  | succ d ih =>
    intro n hn
    have hw := w64_succ (n := n) (m := l.length) (by omega) (by omega)
    have bad : ∀ (_ : ¬ ((0 ≤ (rd_T60 l (n : Int)).f0 ∧ (rd_T60 l (n : Int)).f0 ≤ 10000) ∧ (-1000 ≤ (rd_T60 l (n : Int)).f1 ∧ (rd_T60 l (n : Int)).f1 ≤ 1000))), ∃ r : Int, Ev (fun k => impl_FuelTank_65.l0 k l (l.length : Int) (n : Int)) r ∧ Ev (fun k => spec_l2Tanks.l0 k l (n : Int)) (if (l.length : Int) ≤ 8 then !decide (r ≥ 0) else false) := by
      intro hb
      have e : (if (l.length : Int) ≤ 8 then !decide ((n : Int) ≥ 0) else false) = false := by
        rw [decide_eq_true (show (n : Int) ≥ 0 by omega)]; split <;> rfl
      refine ⟨(n : Int), ev_succ ?_, ev_succ ?_⟩
      · simp only [impl_FuelTank_65.l0, impl_tanksOk_1.f, iin, Option.bind_some]
        refine ev_pos (by omega) (ev_pos (by omega) (ev_pos (by omega) ?_))
        by_cases h1 : 0 ≤ (rd_T60 l (n : Int)).f0 ∧ (rd_T60 l (n : Int)).f0 ≤ 10000
        · have h2 : ¬ (-1000 ≤ (rd_T60 l (n : Int)).f1 ∧ (rd_T60 l (n : Int)).f1 ≤ 1000) := fun h => hb ⟨h1, h⟩
          simp only [decide_eq_true h1, decide_eq_false h2, if_true, Option.bind_some, Bool.not_false]
          exact Ev.now _
        · simp only [decide_eq_false h1, Bool.false_eq_true, if_false, Option.bind_some]
          exact Ev.now _
      · rw [e]
        simp only [spec_l2Tanks.l0, sin, Option.bind_some]
        refine ev_pos (by omega) (ev_pos (by omega) ?_)
        by_cases h1 : 0 ≤ (rd_T60 l (n : Int)).f0 ∧ (rd_T60 l (n : Int)).f0 ≤ 10000
        · have h2 : ¬ (-1000 ≤ (rd_T60 l (n : Int)).f1 ∧ (rd_T60 l (n : Int)).f1 ≤ 1000) := fun h => hb ⟨h1, h⟩
          exact ev_pos (decide_eq_true h1) (ev_neg (by simpa using h2) (Ev.now _))
        · exact ev_neg (by simpa using h1) (Ev.now _)
    by_cases h1 : 0 ≤ (rd_T60 l (n : Int)).f0 ∧ (rd_T60 l (n : Int)).f0 ≤ 10000
    · by_cases h2 : -1000 ≤ (rd_T60 l (n : Int)).f1 ∧ (rd_T60 l (n : Int)).f1 ≤ 1000
      · obtain ⟨r, a, b⟩ := ih (n + 1) (by omega)
        refine ⟨r, ev_succ ?_, ev_succ ?_⟩
        · simp only [impl_FuelTank_65.l0, impl_tanksOk_1.f, iin, hw, decide_eq_true h1, decide_eq_true h2, Option.bind_some, if_true, Bool.not_true, Bool.false_eq_true, if_false]
          exact ev_pos (by omega) (ev_pos (by omega) (ev_pos (by omega) a))
        · simp only [spec_l2Tanks.l0, sin, hw, decide_eq_true h1, decide_eq_true h2, Option.bind_some]
          exact ev_pos (by omega) (ev_pos (by omega) (ev_pos (by trivial) (ev_pos (by trivial) b)))
      · exact bad (fun h => h2 h.2)
    · exact bad (fun h => h1 h.1)
theorem tanks_both (l : List Tk) (hl : l.length ≤ 1048576) : ∃ b : Bool, Ev (fun k => impl_tanksOk.f k l) b ∧ Ev (fun k => spec_l2Tanks.f k l) b ∧ (b = true → l.length ≤ 8) := by
  obtain ⟨r, a, b⟩ := tanks_loop l hl l.length 0 (by omega)
  refine ⟨_, ?_, by unfold spec_l2Tanks.f; exact b, ?_⟩
  · unfold impl_tanksOk.f impl_FuelTank_58.f impl_FuelTank_65.f
    refine Ev.bind (Ev.bind a (Ev.now _)) ?_
    by_cases h : (l.length : Int) ≤ 8
    · simp only [if_pos h]; exact Ev.now _
    · simp only [if_neg h]; exact Ev.now _
  · intro h
    split at h
    · omega
    · cases h
theorem burn_loop (p : List Bn) (hp : p.length ≤ 60) : ∀ (d n : Nat) (o : List Tk), n + d = p.length → o.length ≤ 8 → ∃ r : List Tk × Int, Ev (fun k => spec_Burnt.l0 k p o (n : Int)) r ∧ Ev (fun k => impl_Burnt.l0 k o p (p.length : Int) (n : Int)) r ∧ r.1.length = o.length := by
  intro d
  induction d with
  | zero =>
    intro n o hn ho
    refine ⟨(o, -1), ev_succ ?_, ev_succ ?_, rfl⟩
    · simp only [spec_Burnt.l0]
      exact ev_neg (by omega) (Ev.now _)
    · simp only [impl_Burnt.l0]
      exact ev_neg (by omega) (Ev.now _)
  | succ d ih =>
    intro n o hn ho
    have hw := w64_succ (n := n) (m := p.length) (by omega) (by omega)
    have hv : wrap64 ((o.length : Int) - 1) = (o.length : Int) - 1 := w64 (by omega) (by omega)
    generalize hb : rd_T62 p (n : Int) = b
    have stop : ∀ (_ : ¬ ((0 ≤ b.f0 ∧ b.f0 ≤ (o.length : Int) - 1) ∧ (1 ≤ b.f1 ∧ b.f1 ≤ 10000)) ∨ (rd_T60 o b.f0).f0 < b.f1), ∃ r : List Tk × Int, Ev (fun k => spec_Burnt.l0 k p o (n : Int)) r ∧ Ev (fun k => impl_Burnt.l0 k o p (p.length : Int) (n : Int)) r ∧ r.1.length = o.length := by
      intro hc
      refine ⟨(o, (n : Int)), ev_succ ?_, ev_succ ?_, rfl⟩
      · simp only [spec_Burnt.l0, sin, hv, hb, Option.bind_some]
        refine ev_pos (by omega) (ev_pos (by omega) ?_)
        by_cases h1 : 0 ≤ b.f0 ∧ b.f0 ≤ (o.length : Int) - 1
        · refine ev_pos (decide_eq_true h1) ?_
          by_cases h2 : 1 ≤ b.f1 ∧ b.f1 ≤ 10000
          · rcases hc with hc | hc
            · exact absurd ⟨h1, h2⟩ hc
            · exact ev_pos (decide_eq_true h2) (ev_pos (by omega) (ev_pos (by omega) (ev_pos hc (Ev.now _))))
          · exact ev_neg (by simpa using h2) (Ev.now _)
        · exact ev_neg (by simpa using h1) (Ev.now _)
      · simp only [impl_Burnt.l0, iin, hv, hb, Option.bind_some]
        refine ev_pos (by omega) (ev_pos (by omega) (ev_pos (by omega) ?_))
        by_cases h1 : 0 ≤ b.f0 ∧ b.f0 ≤ (o.length : Int) - 1
        · refine ev_pos (decide_eq_true h1) ?_
          by_cases h2 : 1 ≤ b.f1 ∧ b.f1 ≤ 10000
          · rcases hc with hc | hc
            · exact absurd ⟨h1, h2⟩ hc
            · exact ev_pos (decide_eq_true h2) (ev_pos (by omega) (ev_pos (by omega) (ev_pos hc (Ev.now _))))
          · exact ev_neg (by simpa using h2) (Ev.now _)
        · exact ev_neg (by simpa using h1) (Ev.now _)
    by_cases h1 : 0 ≤ b.f0 ∧ b.f0 ≤ (o.length : Int) - 1
    · by_cases h2 : 1 ≤ b.f1 ∧ b.f1 ≤ 10000
      · by_cases h3 : (rd_T60 o b.f0).f0 < b.f1
        · exact stop (.inr h3)
        · obtain ⟨r, a, c, e⟩ := ih (n + 1) (o.set (b.f0 : Int).toNat (⟨wrap64 ((rd_T60 o b.f0).f0 - b.f1), (rd_T60 o b.f0).f1⟩ : Tk)) (by omega) (by simp; omega)
          rw [List.length_set] at e
          refine ⟨r, ev_succ ?_, ev_succ ?_, e⟩
          · simp only [spec_Burnt.l0, sin, hv, hw, hb, decide_eq_true h1, decide_eq_true h2, Option.bind_some]
            exact ev_pos (by omega) (ev_pos (by omega) (ev_pos (by trivial) (ev_pos (by trivial) (ev_pos (by omega) (ev_pos (by omega) (ev_neg h3 a))))))
          · simp only [impl_Burnt.l0, iin, hv, hw, hb, decide_eq_true h1, decide_eq_true h2, Option.bind_some]
            exact ev_pos (by omega) (ev_pos (by omega) (ev_pos (by omega) (ev_pos (by trivial) (ev_pos (by trivial) (ev_pos (by omega) (ev_pos (by omega) (ev_neg h3 c)))))))
      · exact stop (.inl (fun h => h2 h.2))
    · exact stop (.inl (fun h => h1 h.1))
theorem burnt_both (l : List Tk) (p : List Bn) (hl : l.length ≤ 1048576) : ∃ r : List Tk × Int, Ev (fun k => spec_Burnt.f k l p) r ∧ Ev (fun k => impl_Burnt.f k l p) r ∧ r.1.length ≤ 8 := by
  obtain ⟨b, a, c, h8⟩ := tanks_both l hl
  unfold spec_Burnt.f impl_Burnt.f
  have no : Ev (fun k => spec_Burnt.j0 k l p true) (([] : List Tk), (-2 : Int)) ∧ Ev (fun k => impl_Burnt.j0 k l p true) (([] : List Tk), (-2 : Int)) := by
    refine ⟨ev_succ ?_, ev_succ ?_⟩
    · simp only [spec_Burnt.j0]
      exact ev_pos (by trivial) (Ev.now _)
    · simp only [impl_Burnt.j0]
      exact ev_pos (by trivial) (Ev.now _)
  cases b with
  | false =>
    exact ⟨_, Ev.bind c (ev_neg (by decide) no.1), Ev.bind a (ev_neg (by decide) no.2), Nat.zero_le _⟩
  | true =>
    have hl8 := h8 rfl
    by_cases hp : (p.length : Int) > 60
    · refine ⟨([], -2), Ev.bind c (ev_pos (by trivial) ?_), Ev.bind a (ev_pos (by trivial) ?_), Nat.zero_le _⟩
      · rw [decide_eq_true hp]; exact no.1
      · rw [decide_eq_true hp]; exact no.2
    · obtain ⟨r, x, y, z⟩ := burn_loop p (by omega) p.length 0 l (by omega) hl8
      refine ⟨r, Ev.bind c (ev_pos (by trivial) ?_), Ev.bind a (ev_pos (by trivial) ?_), by omega⟩
      · rw [decide_eq_false hp]
        refine ev_succ ?_
        simp only [spec_Burnt.j0, Option.bind_some, List.nil_append, List.length_nil]
        exact ev_neg (by decide) (ev_pos (by omega) x)
      · rw [decide_eq_false hp]
        refine ev_succ ?_
        simp only [impl_Burnt.j0, impl_FuelTank_41.f, Option.bind_some, List.nil_append, List.length_nil]
        rw [if_pos (by omega)]
        exact ev_neg (by decide) y

theorem FnExactBurnt : laws_FnExactBurnt.PureR := by
  intro l p ⟨hx, _⟩ ⟨hy, _⟩
  refine Ev.rounds ?_
  unfold laws_FnExactBurnt.f
  rw [szFuelTankS_eq l _ (by omega) (by omega) hx]
  simp only [Option.bind_some]
  by_cases hb : (1048576 : Int) - l.length < 0
  · rw [if_pos hb]
    exact ev_pos (by omega) (Ev.now _)
  rw [if_neg hb]
  refine ev_neg hb ?_
  rw [szBurnS_eq p _ (by omega) (by omega) hy]
  simp only [Option.bind_some]
  by_cases hb2 : (1048576 : Int) - l.length - p.length < 0
  · rw [if_pos hb2]
    exact ev_pos (by omega) (Ev.now _)
  rw [if_neg hb2]
  refine ev_neg hb2 ?_
  obtain ⟨⟨r, c⟩, h1, h2, hr⟩ := burnt_both (l.map c_FuelTank) (p.map c_Burn) (by simp; omega)
  have hr' : r.length ≤ 8 := hr
  have ht := toFuelTankS_ev l (by omega)
  have hq := toBurnS_ev p (by omega)
  have he := eqFuelTankS_ev r (by omega)
  have he1 := eqFuelTankS_ev (l.map c_FuelTank) (by simp; omega)
  have he2 := eqBurnS_ev (p.map c_Burn) (by simp; omega)
  have hm := markFuelTankS_ev (l.map c_FuelTank) (by simp; omega) 1 (by omega) (by omega)
  have hm2 := markBurnS_ev (p.map c_Burn) (by simp; omega) (1 + 2 * ((l.map c_FuelTank).length : Int)) (by omega) (by simp; omega)
  have hi := markFuelTankS_ev r (by omega) 1 (by omega) (by omega)
  have hh := heldFuelTankS_ev r.length (by omega) 1 (by omega) (by omega)
  refine Ev.bind ht (Ev.bind hq (Ev.bind h1 (Ev.bind ht (Ev.bind hq (Ev.bind h2 (Ev.bind he (ev_pos (by trivial) (ev_succ ?_))))))))
  simp only [laws_FnExactBurnt.j0]
  refine ev_neg (by simp) (Ev.bind ht (Ev.bind he1 (ev_pos (by trivial) (Ev.bind hq (Ev.bind he2 (ev_pos (by trivial) (Ev.bind hm (Ev.bind hm2 (ev_neg (by simp; omega) (Ev.bind he (ev_pos (by trivial) (ev_succ ?_))))))))))))
  simp only [laws_FnExactBurnt.j1]
  refine ev_neg (by simp) (Ev.bind hi (Ev.bind hh (ev_neg (by omega) (ev_pos (by trivial) (Ev.bind ht (Ev.bind hq (Ev.bind h2 (Ev.bind he (ev_pos (by trivial) (ev_succ ?_))))))))))
  simp only [laws_FnExactBurnt.j2]
  exact ev_neg (by simp) (Ev.bind hh (ev_neg (by omega) (ev_pos (by trivial) (Ev.now _))))

end Go.Proofs.Yteedbciobdcmaaa.Pure
