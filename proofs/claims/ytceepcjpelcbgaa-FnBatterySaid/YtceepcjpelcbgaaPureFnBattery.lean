/- Proved here: the pure statement of the law FnBattery; no condition. -/
import Derived.Test.YtceepcjpelcbgaaPureDefFnBattery
namespace Go.Proofs.Ytceepcjpelcbgaa.Pure
open Go.RowKit Go.Proofs.Ytceepcjpelcbgaa.QFnBattery Go.Proofs.YtceepcjpelcbgaaW.PrintWords Go.Proofs.YtceepcjpelcbgaaW.PrintLast Go.Proofs.YtceepcjpelcbgaaW.PrintMore
set_option linter.unusedVariables false
set_option linter.unusedSimpArgs false

theorem ev_pos {c : Prop} [Decidable c] {α : Type} {A B : Nat → Option α} {r : α} (h : c) (k : Ev A r) : Ev (fun n => if c then A n else B n) r := by
  simpa only [if_pos h] using k
theorem ev_neg {c : Prop} [Decidable c] {α : Type} {A B : Nat → Option α} {r : α} (h : ¬ c) (k : Ev B r) : Ev (fun n => if c then A n else B n) r := by
  simpa only [if_neg h] using k
theorem ev_succ {α : Type} {g : Nat → Option α} {r : α} (h : Ev (fun k => g (k + 1)) r) : Ev g r := Ev.step (fun _ => rfl) h
theorem ex_succ {α : Type} {g : Nat → Option α} (h : ∃ r, Ev (fun k => g (k + 1)) r) : ∃ r, Ev g r := by
  obtain ⟨r, h⟩ := h
  exact ⟨r, ev_succ h⟩
theorem ev_one {α : Type} {g : Nat → Option α} {r q : α} (h : Ev g r) (h' : Ev g q) : r = q := by
  obtain ⟨K, hK⟩ := h
  obtain ⟨L, hL⟩ := h'
  have a := hK (max K L) (Nat.le_max_left _ _)
  have b := hL (max K L) (Nat.le_max_right _ _)
  exact Option.some.inj (a.symm.trans b)
theorem ev_bool {α : Type} {A B : Nat → Option α} {r : α} (b : Bool) (h1 : b = true → Ev A r) (h2 : b = false → Ev B r) : Ev (fun n => if b = true then A n else B n) r := by
  cases b with
  | true => exact ev_pos (by trivial) (h1 rfl)
  | false => exact ev_neg (by decide) (h2 rfl)
theorem bool_eq_of_iff {a b : Bool} {p : Prop} (h : a = true ↔ p) (h' : b = true ↔ p) : a = b := by
  rw [Bool.eq_iff_iff]
  exact h.trans h'.symm
theorem w64 {x : Int} (h0 : -9223372036854775808 ≤ x) (h1 : x ≤ 9223372036854775807) : wrap64 x = x := by
  unfold wrap64
  omega
theorem w64_succ {n m : Nat} (h : n < m) (hm : m ≤ 9223372036854775807) : wrap64 ((n : Int) + 1) = ((n + 1 : Nat) : Int) := by
  unfold wrap64
  omega
theorem rd_nat (l : List Int) (n : Nat) : rd l (n : Int) = l.getD n 0 := by
  unfold rd
  rw [Int.toNat_natCast]
theorem take_set_succ {α : Type} (d : α) {x0 x3 : List α} {n : Nat} (h : n < x0.length) (hl : x3.length = x0.length) (ht : x3.take n = x0.take n) : (x3.set n (x0.getD n d)).take (n + 1) = x0.take (n + 1) := by
  apply List.ext_getElem?
  intro i
  simp only [List.getElem?_take, List.getElem?_set]
  by_cases hi : i < n + 1
  · rw [if_pos hi, if_pos hi]
    by_cases he : n = i
    · subst he
      rw [if_pos rfl, if_pos (by omega), List.getD_eq_getElem?_getD, List.getElem?_eq_getElem h]
      rfl
    · rw [if_neg he]
      have := congrArg (fun l => l[i]?) ht
      simpa only [List.getElem?_take, if_pos (show i < n by omega)] using this
  · rw [if_neg hi, if_neg hi]
theorem u8_bounds {l : List Int} (h : ∀ x ∈ l, 0 ≤ x ∧ x ≤ 255) (n : Nat) : 0 ≤ l.getD n 0 ∧ l.getD n 0 ≤ 255 := by
  rw [List.getD_eq_getElem?_getD]
  cases e : l[n]? with
  | none => simp
  | some x =>
    exact h x (List.mem_of_getElem? e)
theorem getD_map {α β : Type} (c : α → β) (l : List α) (n : Nat) (d : α) : (l.map c).getD n (c d) = c (l.getD n d) := by
  simp only [List.getD_eq_getElem?_getD, List.getElem?_map]
  cases l[n]? <;> rfl
/-- It ends, with true just where p holds. -/
def EvB (g : Nat → Option Bool) (p : Prop) : Prop := ∃ b, Ev g b ∧ (b = true ↔ p)
theorem EvB.iff {g : Nat → Option Bool} {p q : Prop} (h : EvB g p) (h' : p ↔ q) : EvB g q := by
  obtain ⟨b, hb, ib⟩ := h
  exact ⟨b, hb, ib.trans h'⟩
theorem EvB.dec {c : Prop} [Decidable c] : EvB (fun _ => some (decide c)) c := ⟨decide c, Ev.now _, decide_eq_true_iff⟩
theorem EvB.ite {c : Prop} [Decidable c] {A : Nat → Option Bool} {p : Prop} (h : EvB A p) : EvB (fun n => if c then A n else some false) (c ∧ p) := by
  obtain ⟨b, hb, ib⟩ := h
  by_cases hc : c
  · exact ⟨b, ev_pos hc hb, ⟨fun h => ⟨hc, ib.1 h⟩, fun h => ib.2 h.2⟩⟩
  · exact ⟨false, ev_neg hc (Ev.now _), ⟨fun h => (Bool.false_ne_true h).elim, fun h => absurd h.1 hc⟩⟩
theorem EvB.ite_not {c : Prop} [Decidable c] {A : Nat → Option Bool} {p : Prop} (h : EvB A p) : EvB (fun n => if c then some false else A n) (¬ c ∧ p) := by
  obtain ⟨b, hb, ib⟩ := h
  by_cases hc : c
  · exact ⟨false, ev_pos hc (Ev.now _), ⟨fun h => (Bool.false_ne_true h).elim, fun h => absurd hc h.1⟩⟩
  · exact ⟨b, ev_neg hc hb, ⟨fun h => ⟨hc, ib.1 h⟩, fun h => ib.2 h.2⟩⟩
theorem EvB.bind {g A : Nat → Option Bool} {p q : Prop} (h : EvB g p) (h' : EvB A q) : EvB (fun n => (g n).bind fun t => if t = true then A n else some false) (p ∧ q) := by
  obtain ⟨b, hb, ib⟩ := h
  obtain ⟨c, hc, ic⟩ := h'
  cases b with
  | true => exact ⟨c, Ev.bind hb (ev_pos rfl hc), ⟨fun h => ⟨ib.1 rfl, ic.1 h⟩, fun h => ic.2 h.2⟩⟩
  | false => exact ⟨false, Ev.bind hb (ev_neg (by decide) (Ev.now _)), ⟨fun h => (Bool.false_ne_true h).elim, fun h => absurd (ib.2 h.1) (by decide)⟩⟩
theorem EvB.last {g : Nat → Option Bool} {p : Prop} (h : EvB g p) : EvB (fun n => (g n).bind fun t => some t) p := by
  obtain ⟨b, hb, ib⟩ := h
  exact ⟨b, Ev.bind hb (Ev.now _), ib⟩
theorem EvB.same {g g' : Nat → Option Bool} {p : Prop} (h : EvB g p) (h' : EvB g' p) : ∃ b, Ev g b ∧ Ev g' b ∧ (b = true ↔ p) := by
  obtain ⟨b, hb, ib⟩ := h
  obtain ⟨c, hc, ic⟩ := h'
  obtain rfl : c = b := bool_eq_of_iff ic ib
  exact ⟨c, hb, hc, ib⟩
theorem EvB.bindE {g A B : Nat → Option Bool} {p q : Prop} (hB : Ev B false) (h : EvB g p) (h' : EvB A q) : EvB (fun n => (g n).bind fun t => if t = true then A n else B n) (p ∧ q) := by
  obtain ⟨b, hb, ib⟩ := h
  obtain ⟨c, hc, ic⟩ := h'
  cases b with
  | true => exact ⟨c, Ev.bind hb (ev_pos rfl hc), ⟨fun h => ⟨ib.1 rfl, ic.1 h⟩, fun h => ic.2 h.2⟩⟩
  | false => exact ⟨false, Ev.bind hb (ev_neg (by decide) hB), ⟨fun h => (Bool.false_ne_true h).elim, fun h => absurd (ib.2 h.1) (by decide)⟩⟩
theorem EvB.iteE {c : Prop} [Decidable c] {A B : Nat → Option Bool} {p : Prop} (hB : Ev B false) (h : EvB A p) : EvB (fun n => if c then A n else B n) (c ∧ p) := by
  obtain ⟨b, hb, ib⟩ := h
  by_cases hc : c
  · exact ⟨b, ev_pos hc hb, ⟨fun h => ⟨hc, ib.1 h⟩, fun h => ib.2 h.2⟩⟩
  · exact ⟨false, ev_neg hc hB, ⟨fun h => (Bool.false_ne_true h).elim, fun h => absurd h.1 hc⟩⟩
theorem EvB.bindN {g : Nat → Option Bool} {J : Nat → Bool → Option Bool} {p q : Prop} (hB : Ev (fun n => J n true) false) (h : EvB g p) (h' : EvB (fun n => J n false) q) : EvB (fun n => (g n).bind fun t => J n (!t)) (p ∧ q) := by
  obtain ⟨b, hb, ib⟩ := h
  obtain ⟨c, hc, ic⟩ := h'
  cases b with
  | true => exact ⟨c, Ev.bind hb hc, ⟨fun h => ⟨ib.1 rfl, ic.1 h⟩, fun h => ic.2 h.2⟩⟩
  | false => exact ⟨false, Ev.bind hb hB, ⟨fun h => (Bool.false_ne_true h).elim, fun h => absurd (ib.2 h.1) (by decide)⟩⟩
theorem EvB.succ {g : Nat → Option Bool} {p : Prop} (h : EvB (fun k => g (k + 1)) p) : EvB g p := by
  obtain ⟨b, hb, ib⟩ := h
  exact ⟨b, ev_succ hb, ib⟩
theorem EvB.true_ {p : Prop} (h : p) : EvB (fun _ => some true) p := ⟨true, Ev.now _, ⟨fun _ => h, fun _ => rfl⟩⟩
theorem EvB.false_ {p : Prop} (h : ¬ p) : EvB (fun _ => some false) p := ⟨false, Ev.now _, ⟨fun e => (Bool.false_ne_true e).elim, fun e => absurd e h⟩⟩
theorem EvB.pos {c : Prop} [Decidable c] {A B : Nat → Option Bool} {p : Prop} (hc : c) (h : EvB A p) : EvB (fun n => if c then A n else B n) p := by
  simpa only [if_pos hc] using h
theorem EvB.neg {c : Prop} [Decidable c] {A B : Nat → Option Bool} {p : Prop} (hc : ¬ c) (h : EvB B p) : EvB (fun n => if c then A n else B n) p := by
  simpa only [if_neg hc] using h

def AllIn (l : List Int) (lo hi : Int) : Prop := ∀ n, n < l.length → lo ≤ l.getD n 0 ∧ l.getD n 0 ≤ hi
def Rise (l : List Int) : Prop := ∀ n, n + 1 < l.length → l.getD n 0 < l.getD (n + 1) 0

theorem impl_in_eq (a b c : Int) : impl_in.f a b c = some (decide (b ≤ a ∧ a ≤ c)) := by
  unfold impl_in.f
  split
  · congr 1
    rw [decide_eq_decide]
    omega
  · congr 1
    symm
    rw [decide_eq_false_iff_not]
    omega
theorem impl_in_evB (a b c : Int) : EvB (fun _ => impl_in.f a b c) (b ≤ a ∧ a ≤ c) := by
  rw [impl_in_eq]
  exact EvB.dec

theorem impl_all_loop (l : List Int) (lo hi : Int) (hx : l.length ≤ 9223372036854775807) : ∀ (d n : Nat), n + d = l.length → (∀ m, m < n → lo ≤ l.getD m 0 ∧ l.getD m 0 ≤ hi) → ∃ b, Ev (fun k => impl_allIn.l0 k lo hi l (l.length : Int) (n : Int)) b ∧ (b = true ↔ AllIn l lo hi) := by
  intro d
  induction d with
  | zero =>
    intro n hn hm
    refine ⟨true, ?_, ⟨fun _ m h => hm m (by omega), fun _ => rfl⟩⟩
    refine ev_succ ?_
    simp only [impl_allIn.l0]
    exact ev_neg (by omega) (Ev.now _)
  | succ d ih =>
    intro n hn hm
    by_cases h : lo ≤ l.getD n 0 ∧ l.getD n 0 ≤ hi
    · obtain ⟨b, hb, hiff⟩ := ih (n + 1) (by omega) (fun m hm' => by
        by_cases e : m = n
        · subst e; exact h
        · exact hm m (by omega))
      refine ⟨b, ?_, hiff⟩
      refine ev_succ ?_
      simp only [impl_allIn.l0, impl_in_eq, Option.bind_some]
      refine ev_pos (by omega) (ev_pos (by omega) (ev_pos (by omega) (ev_pos (by rw [rd_nat]; simpa using h) ?_)))
      rw [w64_succ (m := l.length) (by omega) hx]
      exact hb
    · refine ⟨false, ?_, ⟨fun h' => (Bool.false_ne_true h').elim, fun h' => absurd (h' n (by omega)) h⟩⟩
      refine ev_succ ?_
      simp only [impl_allIn.l0, impl_in_eq, Option.bind_some]
      exact ev_pos (by omega) (ev_pos (by omega) (ev_pos (by omega) (ev_neg (by rw [rd_nat]; simpa using h) (Ev.now _))))
theorem impl_all_ev (l : List Int) (lo hi : Int) (hx : l.length ≤ 9223372036854775807) : ∃ b, Ev (fun k => impl_allIn.f k l lo hi) b ∧ (b = true ↔ AllIn l lo hi) := by
  unfold impl_allIn.f
  exact impl_all_loop l lo hi hx l.length 0 (by omega) (fun m h => by omega)

theorem at_ev {l : List Int} (h : ∀ x ∈ l, 0 ≤ x ∧ x ≤ 255) (hl : l.length ≤ 1048576) (i : Int) (h0 : 0 ≤ i) (h1 : i ≤ 1000000) : ∃ v, laws_at.f l i = some v ∧ 0 ≤ v ∧ v ≤ 255 := by
  unfold laws_at.f
  by_cases hi : i < (l.length : Int)
  · rw [if_pos hi, if_pos h0]
    have := u8_bounds h i.toNat
    refine ⟨_, rfl, ?_⟩
    unfold rd
    rw [w64 (by omega) (by omega)]
    exact this
  · rw [if_neg hi]
    refine ⟨_, rfl, ?_⟩
    rw [w64 (x := i * 7) (by omega) (by omega), w64 (by omega) (by omega), Int.tmod_eq_emod_of_nonneg (by omega)]
    omega

theorem big_ev {l : List Int} (h : l.length ≤ 1048576) : laws_big.f l = some false := by
  unfold laws_big.f
  rw [decide_eq_false (by omega)]
theorem big_big {l : List Int} (h : ¬ l.length ≤ 1048576) : laws_big.f l = some true := by
  unfold laws_big.f
  rw [decide_eq_true (by omega)]

def lst (most loss : Int) : List Int → Int → Int → Int × Int
  | [], i, c => (i, c)
  | x :: xs, i, c => if mn (c - x - loss) most < 0 then (i, c) else lst most loss xs (i + 1) (mn (c - x - loss) most)
theorem lasts_loop (l : List Int) (most loss : Int) (hm : 0 ≤ most) (hm' : most ≤ 1000000) (hl : 0 ≤ loss) (hl' : loss ≤ 100) (hx : l.length ≤ 300) (hb : ∀ n, n < l.length → -100000 ≤ l.getD n 0 ∧ l.getD n 0 ≤ 100000) :
    ∀ (d n : Nat) (c : Int), n + d = l.length → 0 ≤ c → c ≤ most → Ev (fun k => impl_Lasts.l0 k l l (l.length : Int) (n : Int) c most loss) ((lst most loss (l.drop n) n c).1, (lst most loss (l.drop n) n c).2, true) := by
  intro d
  induction d with
  | zero =>
    intro n c hn h0 h1
    rw [List.drop_of_length_le (by omega)]
    refine ev_succ ?_
    simp only [impl_Lasts.l0, lst]
    refine ev_neg (by omega) ?_
    rw [show n = l.length by omega]
    exact Ev.now _
  | succ d ih =>
    intro n c hn h0 h1
    have hlt : n < l.length := by omega
    obtain ⟨b0, b1⟩ := hb n hlt
    have eg : l.getD n 0 = l[n] := by rw [List.getD_eq_getElem?_getD, List.getElem?_eq_getElem hlt]; rfl
    rw [eg] at b0 b1
    have e1 : wrap64 (c - l[n]) = c - l[n] := w64 (by omega) (by omega)
    have e2 : wrap64 (c - l[n] - loss) = c - l[n] - loss := w64 (by omega) (by omega)
    have e3 : wrap64 ((n : Int) + 1) = ((n + 1 : Nat) : Int) := w64_succ (m := l.length) hlt (by omega)
    rw [List.drop_eq_getElem_cons hlt]
    refine ev_succ ?_
    simp only [impl_Lasts.l0, lst, rd_nat, eg, e1, e2, e3]
    refine ev_pos (Int.ofNat_lt.2 hlt) (ev_pos (Int.natCast_nonneg n) (ev_pos (Int.ofNat_lt.2 hlt) ?_))
    by_cases h : mn (c - l[n] - loss) most < 0
    · simp only [if_pos h]
      exact Ev.now _
    · simp only [if_neg h]
      have := ih (n + 1) (mn (c - l[n] - loss) most) (by omega) (by omega) (by unfold mn; omega)
      rw [show ((n : Int) + 1) = ((n + 1 : Nat) : Int) by omega]
      exact this
theorem lasts_ev (l : List Int) (most loss c : Int) (hm' : most ≤ 1000000) (hl : 0 ≤ loss) (hl' : loss ≤ 100) (hx : l.length ≤ 300) (hb : ∀ n, n < l.length → -100000 ≤ l.getD n 0 ∧ l.getD n 0 ≤ 100000) (h0 : 0 ≤ c) (h1 : c ≤ most) :
    Ev (fun k => impl_Lasts.f k c most loss l) ((lst most loss l 0 c).1, (lst most loss l 0 c).2, true) := by
  unfold impl_Lasts.f
  refine ev_pos h0 (ev_pos h1 (ev_pos hm' ?_))
  rw [impl_in_eq, decide_eq_true ⟨hl, hl'⟩]
  simp only [Option.bind_some]
  refine ev_succ ?_
  simp only [impl_Lasts.j0]
  obtain ⟨b, hb1, hb2⟩ := impl_all_ev l (-100000) 100000 (by omega)
  obtain rfl : b = true := hb2.2 hb
  refine ev_pos (by trivial) (ev_neg (by omega) (Ev.bind hb1 (ev_succ ?_)))
  simp only [impl_Lasts.j1]
  refine ev_neg (by decide) ?_
  have := lasts_loop l most loss (by omega) hm' hl hl' hx hb l.length 0 c (by omega) h0 h1
  simpa using this
theorem lst_ok (most loss : Int) (hl : 0 ≤ loss) (hm : 0 ≤ most) : ∀ (xs ys : List Int) (i c e : Int), xs.length = ys.length → (∀ n, n < xs.length → ys.getD n 0 ≤ xs.getD n 0) → 0 ≤ c → c ≤ e → e ≤ most →
    (lst most loss xs i c).1 ≤ (lst most loss ys i e).1 ∧ i ≤ (lst most loss xs i c).1 ∧ (lst most loss xs i c).1 ≤ i + xs.length ∧ 0 ≤ (lst most loss xs i c).2 ∧ (lst most loss xs i c).2 ≤ most ∧ 0 ≤ (lst most loss ys i e).2 ∧
      ((lst most loss xs i c).1 = (lst most loss ys i e).1 → (lst most loss xs i c).2 ≤ (lst most loss ys i e).2) := by
  intro xs
  induction xs with
  | nil =>
    intro ys i c e hlen _ h0 h1 h2
    cases ys with
    | nil => simp [lst]; omega
    | cons y ys => simp at hlen
  | cons x xs ih =>
    intro ys i c e hlen hle h0 h1 h2
    cases ys with
    | nil => simp at hlen
    | cons y ys =>
      have hxy : y ≤ x := by simpa using hle 0 (by simp)
      have hle' : ∀ n, n < xs.length → ys.getD n 0 ≤ xs.getD n 0 := fun n hn => by simpa using hle (n + 1) (by first | (simp; done) | (simp; omega))
      have hlen' : xs.length = ys.length := by simpa using hlen
      simp only [lst, List.length_cons]
      have hmn : mn (c - x - loss) most ≤ mn (e - y - loss) most := by unfold mn; omega
      have hmm : mn (e - y - loss) most ≤ most := by unfold mn; omega
      by_cases hy : mn (e - y - loss) most < 0
      · rw [if_pos hy, if_pos (by omega)]
        simp only
        omega
      · rw [if_neg hy]
        by_cases hx : mn (c - x - loss) most < 0
        · rw [if_pos hx]
          obtain ⟨_, a2, _, _, _, a6, _⟩ := ih ys (i + 1) (mn (e - y - loss) most) (mn (e - y - loss) most) hlen' hle' (by omega) (Int.le_refl _) hmm
          obtain ⟨b1, b2, _, _, _, _, _⟩ := ih ys (i + 1) (mn (e - y - loss) most) (mn (e - y - loss) most) hlen' hle' (by omega) (Int.le_refl _) hmm
          simp only
          omega
        · rw [if_neg hx]
          obtain ⟨a1, a2, a3, a4, a5, a6, a7⟩ := ih ys (i + 1) (mn (c - x - loss) most) (mn (e - y - loss) most) hlen' hle' (by omega) hmn hmm
          omega
theorem pump_on (s P leak : Int) (hs : s = 0 ∨ s = 1) (h0 : 900 ≤ P) (h1 : P ≤ 5000) (hk : 0 ≤ leak) (hk' : leak ≤ 99) : ∃ P', Ev (fun k => impl_PumpTick.f k s P 0 true leak) (1, P', 0, true) ∧ P ≤ P' ∧ P' ≤ 5000 := by
  have e1 : wrap64 (P + 200) = P + 200 := w64 (by omega) (by omega)
  have e2 : wrap64 (P + 200 - leak) = P + 200 - leak := w64 (by omega) (by omega)
  refine ⟨mx (mn (P + 200 - leak) 5000) 0, ?_, by unfold mx mn; omega, by unfold mx mn; omega⟩
  unfold impl_PumpTick.f
  simp only [impl_in_eq, Option.bind_some]
  refine ev_pos (by first | (simp; done) | (simp; omega)) (ev_pos (by first | (simp; done) | (simp; omega)) (ev_succ ?_))
  simp only [impl_PumpTick.j0, impl_in_eq, Option.bind_some]
  refine ev_pos (by simp) (ev_succ ?_)
  simp only [impl_PumpTick.j1]
  refine ev_neg (by first | (simp; done) | (simp; omega)) (ev_neg (by omega) (ev_pos (by trivial) (ev_succ ?_)))
  simp only [impl_PumpTick.j2]
  refine ev_pos (by trivial) (ev_succ ?_)
  simp only [impl_PumpTick.j3, impl_held.f, Option.bind_some, e1, e2]
  refine ev_neg (by first | (simp; done) | (simp; omega)) (ev_pos (by trivial) (ev_succ ?_))
  simp only [impl_PumpTick.j4]
  exact ev_neg (by simp; unfold mx mn; omega) (ev_neg (by decide) (Ev.now _))
theorem pump_off (s P : Int) (hs : s = 0 ∨ s = 1) (h0 : 900 ≤ P) (h1 : P ≤ 5000) : ∃ P', Ev (fun k => impl_PumpTick.f k s P 0 false 10) (0, P', 0, true) := by
  refine ⟨mx (mn (wrap64 (P - 10)) 5000) 0, ?_⟩
  · skip
    unfold impl_PumpTick.f
    simp only [impl_in_eq, Option.bind_some]
    refine ev_pos (by first | (simp; done) | (simp; omega)) (ev_pos (by first | (simp; done) | (simp; omega)) (ev_succ ?_))
    simp only [impl_PumpTick.j0, impl_in_eq, Option.bind_some]
    refine ev_pos (by simp) (ev_succ ?_)
    simp only [impl_PumpTick.j1]
    refine ev_neg (by simp) (ev_neg (by omega) (ev_neg (by decide) (ev_succ ?_)))
    simp only [impl_PumpTick.j2]
    refine ev_neg (by decide) (ev_succ ?_)
    simp only [impl_PumpTick.j3, impl_held.f, Option.bind_some]
    refine ev_neg (by first | (simp; done) | (simp; omega)) (ev_neg (by decide) (ev_succ ?_))
    simp only [impl_PumpTick.j4]
    exact ev_neg (by decide) (ev_neg (by decide) (Ev.now _))
theorem pumps (l : List Int) (v : Int) (hv : laws_at.f l 70 = some v) (hv0 : 0 ≤ v) (hv1 : v ≤ 255) : ∀ (d n : Nat) (s P : Int), n + d = 10 → (s = 0 ∨ s = 1) → 900 ≤ P → P ≤ 5000 → Ev (fun k => laws_FnBattery.l1 k l (n : Int) s P 0) true := by
  have ev : Int.tmod v 100 = v % 100 := Int.tmod_eq_emod_of_nonneg hv0
  intro d
  induction d with
  | zero =>
    intro n s P hn hs h0 h1
    obtain ⟨P', hp⟩ := pump_off s P hs h0 h1
    refine ev_succ ?_
    simp only [laws_FnBattery.l1]
    refine ev_neg (by omega) (Ev.bind hp (ev_pos (by trivial) (ev_pos (by trivial) ?_)))
    exact Ev.now _
  | succ d ih =>
    intro n s P hn hs h0 h1
    obtain ⟨P', hp, h2, h3⟩ := pump_on s P (v % 100) hs h0 h1 (by omega) (by omega)
    have e3 : wrap64 ((n : Int) + 1) = ((n + 1 : Nat) : Int) := w64_succ (m := 10) (by omega) (by omega)
    refine ev_succ ?_
    simp only [laws_FnBattery.l1, hv, Option.bind_some, ev, e3]
    exact ev_pos (by omega) (Ev.bind hp (ev_pos (by trivial) (ev_pos (by trivial) (ev_neg (by first | (simp; done) | (simp; omega)) (ih (n + 1) 1 P' (by omega) (.inr rfl) (by omega) h3)))))
theorem getD_snoc (l : List Int) (x : Int) (n : Nat) : (l ++ [x]).getD n 0 = if n < l.length then l.getD n 0 else if n = l.length then x else 0 := by
  simp only [List.getD_eq_getElem?_getD]
  by_cases h : n < l.length
  · rw [if_pos h, List.getElem?_append_left h]
  · rw [if_neg h, List.getElem?_append_right (by omega)]
    by_cases h' : n = l.length
    · rw [if_pos h', h']; simp
    · rw [if_neg h', List.getElem?_eq_none (by first | (simp; done) | (simp; omega))]; rfl
theorem w64s {x : Int} (h0 : 0 ≤ x) (h1 : x ≤ 1000000) : wrap64 x = x := w64 (by omega) (by omega)
theorem draw_num (p q : Int) : ∃ x y : Int, wrap64 (p % 40 - 8) = x ∧ wrap64 (x - q % 5) = y ∧ y ≤ x ∧ -8 ≤ x ∧ x ≤ 31 ∧ -12 ≤ y := by
  have h1 : 0 ≤ p % 40 := Int.emod_nonneg _ (by decide)
  have h2 : p % 40 < 40 := Int.emod_lt_of_pos _ (by decide)
  have h3 : 0 ≤ q % 5 := Int.emod_nonneg _ (by decide)
  have h4 : q % 5 < 5 := Int.emod_lt_of_pos _ (by decide)
  generalize p % 40 = a at *
  generalize q % 5 = b at *
  exact ⟨a - 8, a - 8 - b, w64 (by omega) (by omega), w64 (by omega) (by omega), by omega, by omega, by omega, by omega⟩
theorem draws_ev (l : List Int) (hwf : ∀ x ∈ l, 0 ≤ x ∧ x ≤ 255) (hb : l.length ≤ 1048576) (v : Int) (hv : laws_at.f l 2 = some v) (hv0 : 0 ≤ v) (hv1 : v ≤ 255) (c loss : Int) (h0 : 0 ≤ c) (h1 : c ≤ 255) (hl : 0 ≤ loss) (hl' : loss ≤ 3) :
    ∀ (d n : Nat) (xs ys : List Int), (n : Int) + d = v % 30 → xs.length = n → ys.length = n → (∀ m, m < n → ys.getD m 0 ≤ xs.getD m 0 ∧ -8 ≤ xs.getD m 0 ∧ xs.getD m 0 ≤ 31 ∧ -12 ≤ ys.getD m 0) → Ev (fun k => laws_FnBattery.l0 k l xs ys (n : Int) c 255 loss) true := by
  have ev : Int.tmod v 30 = v % 30 := Int.tmod_eq_emod_of_nonneg hv0
  intro d
  induction d with
  | zero =>
    intro n xs ys hn hx hy hxy
    obtain ⟨w, hw, hw0, hw1⟩ := at_ev hwf hb 70 (by omega) (by omega)
    have A := lasts_ev xs 255 loss c (by omega) hl (by omega) (by omega) (fun m hm => by have := hxy m (by omega); omega) h0 h1
    have B := lasts_ev ys 255 loss c (by omega) hl (by omega) (by omega) (fun m hm => by have := hxy m (by omega); omega) h0 h1
    obtain ⟨a1, a2, a3, a4, a5, a6, a7⟩ := lst_ok 255 loss hl (by omega) xs ys 0 c c (by omega) (fun m hm => (hxy m (by omega)).1) h0 (Int.le_refl _) h1
    have J : Ev (fun k => laws_FnBattery.j1 k l false) true := by
      refine ev_succ ?_
      simp only [laws_FnBattery.j1]
      refine ev_neg (by decide) ?_
      exact pumps l w hw hw0 hw1 10 0 0 900 (by omega) (.inl rfl) (by omega) (by omega)
    refine ev_succ ?_
    simp only [laws_FnBattery.l0, hv, Option.bind_some, ev]
    refine ev_neg (by omega) (Ev.bind A (Ev.bind B (ev_pos (by trivial) (ev_pos (by trivial) (ev_neg (by first | (simp; done) | (simp; omega)) (ev_neg (by first | (simp; done) | (simp; omega)) (ev_neg (by first | (simp; done) | (simp; omega)) (ev_neg (by first | (simp; done) | (simp; omega)) (ev_neg (by first | (simp; done) | (simp; omega)) (ev_neg (by first | (simp; done) | (simp; omega)) ?_))))))))))
    by_cases h : (lst 255 loss xs 0 c).1 = (lst 255 loss ys 0 c).1
    · refine ev_pos h ?_
      rw [decide_eq_false (by have := a7 h; simp; omega)]
      exact J
    · exact ev_neg h J
  | succ d ih =>
    intro n xs ys hn hx hy hxy
    obtain ⟨n30, hlt, hn', k0, k3, k40, k3', k40'⟩ : n < 30 ∧ (n : Int) < v % 30 ∧ ((n + 1 : Nat) : Int) + d = v % 30 ∧ (0 : Int) ≤ n ∧ 0 ≤ (n : Int) + 3 ∧ 0 ≤ (n : Int) + 40 ∧ (n : Int) + 3 ≤ 1000000 ∧ (n : Int) + 40 ≤ 1000000 := by
      clear ih hxy hb hwf hv
      omega
    obtain ⟨p, hp, hp0, hp1⟩ := at_ev hwf hb ((n : Int) + 3) k3 k3'
    obtain ⟨q, hq, hq0, hq1⟩ := at_ev hwf hb ((n : Int) + 40) k40 k40'
    have e1 : wrap64 ((n : Int) + 3) = (n : Int) + 3 := w64s k3 k3'
    have e2 : wrap64 ((n : Int) + 40) = (n : Int) + 40 := w64s k40 k40'
    have e3 : wrap64 ((n : Int) + 1) = ((n + 1 : Nat) : Int) := w64_succ (m := 30) n30 (Nat.le_of_ble_eq_true rfl)
    have e4 : Int.tmod p 40 = p % 40 := Int.tmod_eq_emod_of_nonneg hp0
    have e5 : Int.tmod q 5 = q % 5 := Int.tmod_eq_emod_of_nonneg hq0
    obtain ⟨x, y, e6, e7, e8, e9, e10, e11⟩ := draw_num p q
    have lx : xs.length < 17592186044416 := by rw [hx]; exact Nat.lt_trans n30 (by decide)
    have ly : ys.length < 17592186044416 := by rw [hy]; exact Nat.lt_trans n30 (by decide)
    refine ev_succ ?_
    simp only [laws_FnBattery.l0, hv, Option.bind_some, ev, e1, e2, e3, hp, hq, e4, e5, e6, e7]
    refine ev_pos hlt (ev_pos lx (ev_pos ly (ih (n + 1) _ _ hn' (by simp [hx]) (by simp [hy]) (fun m hm => ?_))))
    rw [getD_snoc, getD_snoc, hx, hy]
    by_cases h : m < n
    · rw [if_pos h, if_pos h]
      exact hxy m h
    · have hmn : m = n := Nat.le_antisymm (Nat.le_of_lt_succ hm) (Nat.le_of_not_lt h)
      rw [if_neg h, if_neg h, if_pos hmn, if_pos hmn]
      exact ⟨e8, e9, e10, e11⟩
theorem FnBattery : laws_FnBattery.PureR := by
  intro l0 ⟨hm, hwf⟩
  refine Ev.rounds ?_
  unfold laws_FnBattery.f
  by_cases hb : l0.length ≤ 1048576
  · rw [big_ev hb]
    obtain ⟨v0, q0, a0, b0⟩ := at_ev hwf hb 0 (by omega) (by omega)
    obtain ⟨v1, q1, a1, b1⟩ := at_ev hwf hb 1 (by omega) (by omega)
    obtain ⟨v2, q2, a2, b2⟩ := at_ev hwf hb 2 (by omega) (by omega)
    have e1 : Int.tmod v1 4 = v1 % 4 := Int.tmod_eq_emod_of_nonneg a1
    simp only [Option.bind_some, q0, q1, e1]
    refine ev_neg (by decide) ?_
    exact draws_ev l0 hwf hb v2 q2 a2 b2 v0 (v1 % 4) a0 b0 (by omega) (by omega) (v2 % 30).toNat 0 _ _ (by omega) rfl rfl (fun m h => by omega)
  · rw [big_big hb]
    simp only [Option.bind_some]
    exact ev_pos (by trivial) (Ev.now _)

end Go.Proofs.Ytceepcjpelcbgaa.Pure
