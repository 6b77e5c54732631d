/- Proved here: the program's and the reference's SumOf are the same function of the list; no condition. -/
import Derived.Test.YtgbkmbdciknedaaPureDefFnExactSumOf
namespace Go.Proofs.Ytgbkmbdciknedaa.Pure
open Go.RowKit Go.Proofs.Ytgbkmbdciknedaa.PFnExactSumOf Go.Proofs.YtgbkmbdciknedaaW.PrintWords Go.Proofs.YtgbkmbdciknedaaW.PrintLast Go.Proofs.YtgbkmbdciknedaaW.PrintMore
set_option linter.unusedVariables false
set_option linter.unusedSimpArgs false

theorem ev_pos {c : Prop} [Decidable c] {α : Type} {A B : Nat → Option α} {r : α} (h : c) (k : Ev A r) : Ev (fun n => if c then A n else B n) r := by
  simpa only [if_pos h] using k
theorem ev_neg {c : Prop} [Decidable c] {α : Type} {A B : Nat → Option α} {r : α} (h : ¬ c) (k : Ev B r) : Ev (fun n => if c then A n else B n) r := by
  simpa only [if_neg h] using k
theorem ev_succ {α : Type} {g : Nat → Option α} {r : α} (h : Ev (fun k => g (k + 1)) r) : Ev g r := Ev.step (fun _ => rfl) h
theorem ex_succ {α : Type} {g : Nat → Option α} (h : ∃ r, Ev (fun k => g (k + 1)) r) : ∃ r, Ev g r := by
  obtain ⟨r, h⟩ := h
  exact ⟨r, ev_succ h⟩
theorem ev_one {α : Type} {g : Nat → Option α} {r q : α} (h : Ev g r) (h' : Ev g q) : r = q := by
  obtain ⟨K, hK⟩ := h
  obtain ⟨L, hL⟩ := h'
  have a := hK (max K L) (Nat.le_max_left _ _)
  have b := hL (max K L) (Nat.le_max_right _ _)
  exact Option.some.inj (a.symm.trans b)
theorem ev_bool {α : Type} {A B : Nat → Option α} {r : α} (b : Bool) (h1 : b = true → Ev A r) (h2 : b = false → Ev B r) : Ev (fun n => if b = true then A n else B n) r := by
  cases b with
  | true => exact ev_pos (by trivial) (h1 rfl)
  | false => exact ev_neg (by decide) (h2 rfl)
theorem bool_eq_of_iff {a b : Bool} {p : Prop} (h : a = true ↔ p) (h' : b = true ↔ p) : a = b := by
  rw [Bool.eq_iff_iff]
  exact h.trans h'.symm
theorem w64 {x : Int} (h0 : -9223372036854775808 ≤ x) (h1 : x ≤ 9223372036854775807) : wrap64 x = x := by
  unfold wrap64
  omega
theorem w64_succ {n m : Nat} (h : n < m) (hm : m ≤ 9223372036854775807) : wrap64 ((n : Int) + 1) = ((n + 1 : Nat) : Int) := by
  unfold wrap64
  omega
theorem rd_nat (l : List Int) (n : Nat) : rd l (n : Int) = l.getD n 0 := by
  unfold rd
  rw [Int.toNat_natCast]
theorem take_set_succ {α : Type} (d : α) {x0 x3 : List α} {n : Nat} (h : n < x0.length) (hl : x3.length = x0.length) (ht : x3.take n = x0.take n) : (x3.set n (x0.getD n d)).take (n + 1) = x0.take (n + 1) := by
  apply List.ext_getElem?
  intro i
  simp only [List.getElem?_take, List.getElem?_set]
  by_cases hi : i < n + 1
  · rw [if_pos hi, if_pos hi]
    by_cases he : n = i
    · subst he
      rw [if_pos rfl, if_pos (by omega), List.getD_eq_getElem?_getD, List.getElem?_eq_getElem h]
      rfl
    · rw [if_neg he]
      have := congrArg (fun l => l[i]?) ht
      simpa only [List.getElem?_take, if_pos (show i < n by omega)] using this
  · rw [if_neg hi, if_neg hi]
theorem u8_bounds {l : List Int} (h : ∀ x ∈ l, 0 ≤ x ∧ x ≤ 255) (n : Nat) : 0 ≤ l.getD n 0 ∧ l.getD n 0 ≤ 255 := by
  rw [List.getD_eq_getElem?_getD]
  cases e : l[n]? with
  | none => simp
  | some x =>
    exact h x (List.mem_of_getElem? e)
theorem getD_map {α β : Type} (c : α → β) (l : List α) (n : Nat) (d : α) : (l.map c).getD n (c d) = c (l.getD n d) := by
  simp only [List.getD_eq_getElem?_getD, List.getElem?_map]
  cases l[n]? <;> rfl
/-- It ends, with true just where p holds. -/
def EvB (g : Nat → Option Bool) (p : Prop) : Prop := ∃ b, Ev g b ∧ (b = true ↔ p)
theorem EvB.iff {g : Nat → Option Bool} {p q : Prop} (h : EvB g p) (h' : p ↔ q) : EvB g q := by
  obtain ⟨b, hb, ib⟩ := h
  exact ⟨b, hb, ib.trans h'⟩
theorem EvB.dec {c : Prop} [Decidable c] : EvB (fun _ => some (decide c)) c := ⟨decide c, Ev.now _, decide_eq_true_iff⟩
theorem EvB.ite {c : Prop} [Decidable c] {A : Nat → Option Bool} {p : Prop} (h : EvB A p) : EvB (fun n => if c then A n else some false) (c ∧ p) := by
  obtain ⟨b, hb, ib⟩ := h
  by_cases hc : c
  · exact ⟨b, ev_pos hc hb, ⟨fun h => ⟨hc, ib.1 h⟩, fun h => ib.2 h.2⟩⟩
  · exact ⟨false, ev_neg hc (Ev.now _), ⟨fun h => (Bool.false_ne_true h).elim, fun h => absurd h.1 hc⟩⟩
theorem EvB.ite_not {c : Prop} [Decidable c] {A : Nat → Option Bool} {p : Prop} (h : EvB A p) : EvB (fun n => if c then some false else A n) (¬ c ∧ p) := by
  obtain ⟨b, hb, ib⟩ := h
  by_cases hc : c
  · exact ⟨false, ev_pos hc (Ev.now _), ⟨fun h => (Bool.false_ne_true h).elim, fun h => absurd hc h.1⟩⟩
  · exact ⟨b, ev_neg hc hb, ⟨fun h => ⟨hc, ib.1 h⟩, fun h => ib.2 h.2⟩⟩
theorem EvB.bind {g A : Nat → Option Bool} {p q : Prop} (h : EvB g p) (h' : EvB A q) : EvB (fun n => (g n).bind fun t => if t = true then A n else some false) (p ∧ q) := by
  obtain ⟨b, hb, ib⟩ := h
  obtain ⟨c, hc, ic⟩ := h'
  cases b with
  | true => exact ⟨c, Ev.bind hb (ev_pos rfl hc), ⟨fun h => ⟨ib.1 rfl, ic.1 h⟩, fun h => ic.2 h.2⟩⟩
  | false => exact ⟨false, Ev.bind hb (ev_neg (by decide) (Ev.now _)), ⟨fun h => (Bool.false_ne_true h).elim, fun h => absurd (ib.2 h.1) (by decide)⟩⟩
theorem EvB.last {g : Nat → Option Bool} {p : Prop} (h : EvB g p) : EvB (fun n => (g n).bind fun t => some t) p := by
  obtain ⟨b, hb, ib⟩ := h
  exact ⟨b, Ev.bind hb (Ev.now _), ib⟩
theorem EvB.same {g g' : Nat → Option Bool} {p : Prop} (h : EvB g p) (h' : EvB g' p) : ∃ b, Ev g b ∧ Ev g' b ∧ (b = true ↔ p) := by
  obtain ⟨b, hb, ib⟩ := h
  obtain ⟨c, hc, ic⟩ := h'
  obtain rfl : c = b := bool_eq_of_iff ic ib
  exact ⟨c, hb, hc, ib⟩
theorem EvB.bindE {g A B : Nat → Option Bool} {p q : Prop} (hB : Ev B false) (h : EvB g p) (h' : EvB A q) : EvB (fun n => (g n).bind fun t => if t = true then A n else B n) (p ∧ q) := by
  obtain ⟨b, hb, ib⟩ := h
  obtain ⟨c, hc, ic⟩ := h'
  cases b with
  | true => exact ⟨c, Ev.bind hb (ev_pos rfl hc), ⟨fun h => ⟨ib.1 rfl, ic.1 h⟩, fun h => ic.2 h.2⟩⟩
  | false => exact ⟨false, Ev.bind hb (ev_neg (by decide) hB), ⟨fun h => (Bool.false_ne_true h).elim, fun h => absurd (ib.2 h.1) (by decide)⟩⟩
theorem EvB.iteE {c : Prop} [Decidable c] {A B : Nat → Option Bool} {p : Prop} (hB : Ev B false) (h : EvB A p) : EvB (fun n => if c then A n else B n) (c ∧ p) := by
  obtain ⟨b, hb, ib⟩ := h
  by_cases hc : c
  · exact ⟨b, ev_pos hc hb, ⟨fun h => ⟨hc, ib.1 h⟩, fun h => ib.2 h.2⟩⟩
  · exact ⟨false, ev_neg hc hB, ⟨fun h => (Bool.false_ne_true h).elim, fun h => absurd h.1 hc⟩⟩
theorem EvB.bindN {g : Nat → Option Bool} {J : Nat → Bool → Option Bool} {p q : Prop} (hB : Ev (fun n => J n true) false) (h : EvB g p) (h' : EvB (fun n => J n false) q) : EvB (fun n => (g n).bind fun t => J n (!t)) (p ∧ q) := by
  obtain ⟨b, hb, ib⟩ := h
  obtain ⟨c, hc, ic⟩ := h'
  cases b with
  | true => exact ⟨c, Ev.bind hb hc, ⟨fun h => ⟨ib.1 rfl, ic.1 h⟩, fun h => ic.2 h.2⟩⟩
  | false => exact ⟨false, Ev.bind hb hB, ⟨fun h => (Bool.false_ne_true h).elim, fun h => absurd (ib.2 h.1) (by decide)⟩⟩
theorem EvB.succ {g : Nat → Option Bool} {p : Prop} (h : EvB (fun k => g (k + 1)) p) : EvB g p := by
  obtain ⟨b, hb, ib⟩ := h
  exact ⟨b, ev_succ hb, ib⟩
theorem EvB.true_ {p : Prop} (h : p) : EvB (fun _ => some true) p := ⟨true, Ev.now _, ⟨fun _ => h, fun _ => rfl⟩⟩
theorem EvB.false_ {p : Prop} (h : ¬ p) : EvB (fun _ => some false) p := ⟨false, Ev.now _, ⟨fun e => (Bool.false_ne_true e).elim, fun e => absurd e h⟩⟩
theorem EvB.pos {c : Prop} [Decidable c] {A B : Nat → Option Bool} {p : Prop} (hc : c) (h : EvB A p) : EvB (fun n => if c then A n else B n) p := by
  simpa only [if_pos hc] using h
theorem EvB.neg {c : Prop} [Decidable c] {A B : Nat → Option Bool} {p : Prop} (hc : ¬ c) (h : EvB B p) : EvB (fun n => if c then A n else B n) p := by
  simpa only [if_neg hc] using h

theorem spec_in_eq (a b c : Int) : spec_l1In.f a b c = some (decide (b ≤ a ∧ a ≤ c)) := by
  unfold spec_l1In.f
  split
  · congr 1
    rw [decide_eq_decide]
    omega
  · congr 1
    symm
    rw [decide_eq_false_iff_not]
    omega
theorem spec_in_evB (a b c : Int) : EvB (fun _ => spec_l1In.f a b c) (b ≤ a ∧ a ≤ c) := by
  rw [spec_in_eq]
  exact EvB.dec

theorem impl_in_eq (a b c : Int) : impl_in.f a b c = some (decide (b ≤ a ∧ a ≤ c)) := by
  unfold impl_in.f
  split
  · congr 1
    rw [decide_eq_decide]
    omega
  · congr 1
    symm
    rw [decide_eq_false_iff_not]
    omega
theorem impl_in_evB (a b c : Int) : EvB (fun _ => impl_in.f a b c) (b ≤ a ∧ a ≤ c) := by
  rw [impl_in_eq]
  exact EvB.dec

theorem szItemS_eq (l : List S111) (m : Int) (h0 : 0 ≤ m) (h1 : m ≤ 1048576) (hl : l.length ≤ 9223372036854775807) : laws_szItemS.f l m = some (if m - l.length < 0 then -1 else m - l.length) := by
  unfold laws_szItemS.f
  rw [w64 (x := m - (l.length : Int)) (by omega) (by omega)]
  by_cases h : m - (l.length : Int) < 0
  · rw [if_pos h, if_pos h]
  · rw [if_neg h, if_neg h]

def c_Item (x : S111) : S108 := ⟨x.f0, x.f1⟩
theorem toItemS_loop (x0 : List S111) (hx : x0.length ≤ 9223372036854775807) : ∀ (d n : Nat) (x3 : List S108), n + d = x0.length → x3.length = x0.length → x3.take n = (x0.map c_Item).take n → Ev (fun k => laws_toItemS.l0 k x0 x3 (n : Int)) (x0.map c_Item) := by
  intro d
  induction d with
  | zero =>
    intro n x3 hn hl ht
    refine ev_succ ?_
    simp only [laws_toItemS.l0]
    refine ev_neg (by omega) ?_
    have e : x3 = x0.map c_Item := by rw [← List.take_of_length_le (l := x3) (i := n) (by omega), ht, List.take_of_length_le (by simp; omega)]
    rw [e]
    exact Ev.now _
  | succ d ih =>
    intro n x3 hn hl ht
    have e : (⟨(rd_T111 x0 (n : Int)).f0, (rd_T111 x0 (n : Int)).f1⟩ : S108) = (x0.map c_Item).getD n (c_Item z111) := by
      rw [getD_map]
      simp [rd_T111, c_Item]
    refine ev_succ ?_
    simp only [laws_toItemS.l0, laws_toItem.f, Option.bind_some, Int.toNat_natCast]
    refine ev_pos (by omega) (ev_pos (by omega) (ev_pos (by omega) ?_))
    rw [e, w64_succ (m := x0.length) (by omega) hx]
    exact ih (n + 1) _ (by omega) (by simpa using hl) (take_set_succ _ (by simp; omega) (by simpa using hl) ht)
theorem toItemS_ev (l : List S111) (h : l.length ≤ 1048576) : Ev (fun k => laws_toItemS.f k l) (l.map c_Item) := by
  unfold laws_toItemS.f
  refine ev_pos (by omega) (ev_pos (by omega) ?_)
  exact toItemS_loop l (by omega) l.length 0 _ (by omega) (by simp) (by simp)

theorem eqItem_eq (a0 : Int) (a1 : Int) : laws_eqItem.f a0 a1 a0 a1 = some true := by
  simp [laws_eqItem.f]
theorem eqItemS_loop (x0 : List S108) (hx : x0.length ≤ 9223372036854775807) : ∀ (d n : Nat), n + d = x0.length → Ev (fun k => laws_eqItemS.l0 k x0 x0 (n : Int)) true := by
  intro d
  induction d with
  | zero =>
    intro n hn
    refine ev_succ ?_
    simp only [laws_eqItemS.l0]
    exact ev_neg (by omega) (Ev.now _)
  | succ d ih =>
    intro n hn
    refine ev_succ ?_
    simp only [laws_eqItemS.l0, eqItem_eq, Option.bind_some]
    refine ev_pos (by omega) (ev_pos (by omega) (ev_pos (by omega) (ev_pos (by trivial) ?_)))
    rw [w64_succ (m := x0.length) (by omega) hx]
    exact ih (n + 1) (by omega)
theorem eqItemS_ev (l : List S108) (h : l.length ≤ 9223372036854775807) : Ev (fun k => laws_eqItemS.f k l l) true := by
  unfold laws_eqItemS.f
  exact ev_pos (by trivial) (eqItemS_loop l h l.length 0 (by omega))

theorem sum_same {l : List S108} (h : ¬ (l.length : Int) > 40) (k : Nat) : ∀ i a b, impl_SumOf.l0 k l l (l.length : Int) i a b = spec_SumOf.l0 k l i a b := by
  induction k with
  | zero => intro i a b; simp only [impl_SumOf.l0, spec_SumOf.l0]
  | succ k ih =>
    intro i a b
    simp only [impl_SumOf.l0, spec_SumOf.l0, impl_in_eq, spec_in_eq, Option.bind_some, ih, if_neg h]
    by_cases h1 : i < (l.length : Int)
    · by_cases h2 : 0 ≤ i
      · simp only [if_pos h1, if_pos h2]
      · simp only [if_pos h1, if_neg h2]
    · simp only [if_neg h1]
theorem spec_sum_ends {l : List S108} (hx : l.length ≤ 9223372036854775807) : ∀ (d n : Nat) (a b : Int), n + d = l.length → ∃ r, Ev (fun k => spec_SumOf.l0 k l (n : Int) a b) r := by
  intro d
  induction d with
  | zero =>
    intro n a b hn
    refine ex_succ ?_
    simp only [spec_SumOf.l0]
    exact ⟨_, ev_neg (by omega) (Ev.now _)⟩
  | succ d ih =>
    intro n a b hn
    have e1 : wrap64 ((n : Int) + 1) = ((n + 1 : Nat) : Int) := w64_succ (m := l.length) (by omega) hx
    refine ex_succ ?_
    simp only [spec_SumOf.l0, spec_in_eq, Option.bind_some, e1]
    by_cases h : (l.length : Int) > 40
    · exact ⟨_, ev_pos (by omega) (ev_pos (by omega) (ev_pos h (Ev.now _)))⟩
    · by_cases h1 : 0 ≤ (rd_T108 l (n : Int)).f0 ∧ (rd_T108 l (n : Int)).f0 ≤ 10000
      · by_cases h2 : -1000 ≤ (rd_T108 l (n : Int)).f1 ∧ (rd_T108 l (n : Int)).f1 ≤ 1000
        · obtain ⟨r, hr⟩ := ih (n + 1) (wrap64 (a + (rd_T108 l (n : Int)).f0)) (wrap64 (b + wrap64 ((rd_T108 l (n : Int)).f0 * (rd_T108 l (n : Int)).f1))) (by omega)
          exact ⟨r, ev_pos (by omega) (ev_pos (by omega) (ev_neg h (ev_pos (by simpa using h1) (ev_pos (by simpa using h2) hr))))⟩
        · exact ⟨_, ev_pos (by omega) (ev_pos (by omega) (ev_neg h (ev_pos (by simpa using h1) (ev_neg (by simpa using h2) (Ev.now _)))))⟩
      · exact ⟨_, ev_pos (by omega) (ev_pos (by omega) (ev_neg h (ev_neg (by simpa using h1) (Ev.now _))))⟩
theorem impl_sum_long {l : List S108} (hx : l.length ≤ 9223372036854775807) (h : (l.length : Int) > 40) : ∀ (d n : Nat) (a b : Int), n + d = l.length → Ev (fun k => impl_SumOf.l0 k l l (l.length : Int) (n : Int) a b) (0, 0, false) := by
  intro d
  induction d with
  | zero =>
    intro n a b hn
    refine ev_succ ?_
    simp only [impl_SumOf.l0]
    exact ev_neg (by omega) (ev_pos h (Ev.now _))
  | succ d ih =>
    intro n a b hn
    have e1 : wrap64 ((n : Int) + 1) = ((n + 1 : Nat) : Int) := w64_succ (m := l.length) (by omega) hx
    refine ev_succ ?_
    simp only [impl_SumOf.l0, impl_in_eq, Option.bind_some, e1]
    by_cases h1 : 0 ≤ (rd_T108 l (n : Int)).f0 ∧ (rd_T108 l (n : Int)).f0 ≤ 10000
    · by_cases h2 : -1000 ≤ (rd_T108 l (n : Int)).f1 ∧ (rd_T108 l (n : Int)).f1 ≤ 1000
      · exact ev_pos (by omega) (ev_pos (by omega) (ev_pos (by omega) (ev_pos (by simpa using h1) (ev_pos (by simpa using h2) (ih _ _ _ (by omega))))))
      · exact ev_pos (by omega) (ev_pos (by omega) (ev_pos (by omega) (ev_pos (by simpa using h1) (ev_neg (by simpa using h2) (Ev.now _)))))
    · exact ev_pos (by omega) (ev_pos (by omega) (ev_pos (by omega) (ev_neg (by simpa using h1) (Ev.now _))))
theorem sum_both (l : List S108) (hx : l.length ≤ 9223372036854775807) : ∃ r, Ev (fun k => spec_SumOf.f k l) r ∧ Ev (fun k => impl_SumOf.f k l) r := by
  unfold spec_SumOf.f impl_SumOf.f
  obtain ⟨r, hr⟩ := spec_sum_ends hx l.length 0 0 0 (by omega)
  by_cases h : (l.length : Int) > 40
  · refine ⟨(0, 0, false), ?_, impl_sum_long hx h l.length 0 0 0 (by omega)⟩
    refine ev_succ ?_
    simp only [spec_SumOf.l0]
    exact ev_pos (by omega) (ev_pos (by omega) (ev_pos h (Ev.now _)))
  · refine ⟨r, hr, ?_⟩
    simp only [sum_same h]
    exact hr
theorem FnExactSumOf : laws_FnExactSumOf.PureR := by
  intro l ⟨hx, _⟩
  refine Ev.rounds ?_
  unfold laws_FnExactSumOf.f
  rw [szItemS_eq l _ (by omega) (by omega) hx]
  simp only [Option.bind_some]
  by_cases hb : (1048576 : Int) - l.length < 0
  · rw [if_pos hb]
    exact ev_pos (by omega) (Ev.now _)
  rw [if_neg hb]
  obtain ⟨r, h1, h2⟩ := sum_both (l.map c_Item) (by simp; omega)
  have ht := toItemS_ev l (by omega)
  have he : laws_eqSum2.f r.1 r.2.1 r.1 r.2.1 = some true := by simp [laws_eqSum2.f]
  refine ev_neg hb (Ev.bind ht (Ev.bind h1 (Ev.bind ht (Ev.bind h2 ?_))))
  simp only [he, Option.bind_some]
  refine ev_pos (by trivial) (ev_succ ?_)
  simp only [laws_FnExactSumOf.j0]
  exact ev_neg (by simp) (Ev.bind ht (Ev.bind (eqItemS_ev _ (by simp; omega)) (ev_pos (by trivial) (Ev.now _))))

end Go.Proofs.Ytgbkmbdciknedaa.Pure
