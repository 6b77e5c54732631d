/- Proved here: the program's and the reference's Climbs are the same function of the start and the phases, and share no memory; no condition. -/
import Derived.Test.YtgbkmbdciknedaaPureDefFnExactClimbs
namespace Go.Proofs.Ytgbkmbdciknedaa.Pure
open Go.RowKit Go.Proofs.Ytgbkmbdciknedaa.PFnExactClimbs Go.Proofs.YtgbkmbdciknedaaW.PrintWords Go.Proofs.YtgbkmbdciknedaaW.PrintLast Go.Proofs.YtgbkmbdciknedaaW.PrintMore
set_option linter.unusedVariables false
set_option linter.unusedSimpArgs false

theorem ev_pos {c : Prop} [Decidable c] {α : Type} {A B : Nat → Option α} {r : α} (h : c) (k : Ev A r) : Ev (fun n => if c then A n else B n) r := by
  simpa only [if_pos h] using k
theorem ev_neg {c : Prop} [Decidable c] {α : Type} {A B : Nat → Option α} {r : α} (h : ¬ c) (k : Ev B r) : Ev (fun n => if c then A n else B n) r := by
  simpa only [if_neg h] using k
theorem ev_succ {α : Type} {g : Nat → Option α} {r : α} (h : Ev (fun k => g (k + 1)) r) : Ev g r := Ev.step (fun _ => rfl) h
theorem ex_succ {α : Type} {g : Nat → Option α} (h : ∃ r, Ev (fun k => g (k + 1)) r) : ∃ r, Ev g r := by
  obtain ⟨r, h⟩ := h
  exact ⟨r, ev_succ h⟩
theorem ev_one {α : Type} {g : Nat → Option α} {r q : α} (h : Ev g r) (h' : Ev g q) : r = q := by
  obtain ⟨K, hK⟩ := h
  obtain ⟨L, hL⟩ := h'
  have a := hK (max K L) (Nat.le_max_left _ _)
  have b := hL (max K L) (Nat.le_max_right _ _)
  exact Option.some.inj (a.symm.trans b)
theorem ev_bool {α : Type} {A B : Nat → Option α} {r : α} (b : Bool) (h1 : b = true → Ev A r) (h2 : b = false → Ev B r) : Ev (fun n => if b = true then A n else B n) r := by
  cases b with
  | true => exact ev_pos (by trivial) (h1 rfl)
  | false => exact ev_neg (by decide) (h2 rfl)
theorem bool_eq_of_iff {a b : Bool} {p : Prop} (h : a = true ↔ p) (h' : b = true ↔ p) : a = b := by
  rw [Bool.eq_iff_iff]
  exact h.trans h'.symm
theorem w64 {x : Int} (h0 : -9223372036854775808 ≤ x) (h1 : x ≤ 9223372036854775807) : wrap64 x = x := by
  unfold wrap64
  omega
theorem w64_succ {n m : Nat} (h : n < m) (hm : m ≤ 9223372036854775807) : wrap64 ((n : Int) + 1) = ((n + 1 : Nat) : Int) := by
  unfold wrap64
  omega
theorem rd_nat (l : List Int) (n : Nat) : rd l (n : Int) = l.getD n 0 := by
  unfold rd
  rw [Int.toNat_natCast]
theorem take_set_succ {α : Type} (d : α) {x0 x3 : List α} {n : Nat} (h : n < x0.length) (hl : x3.length = x0.length) (ht : x3.take n = x0.take n) : (x3.set n (x0.getD n d)).take (n + 1) = x0.take (n + 1) := by
  apply List.ext_getElem?
  intro i
  simp only [List.getElem?_take, List.getElem?_set]
  by_cases hi : i < n + 1
  · rw [if_pos hi, if_pos hi]
    by_cases he : n = i
    · subst he
      rw [if_pos rfl, if_pos (by omega), List.getD_eq_getElem?_getD, List.getElem?_eq_getElem h]
      rfl
    · rw [if_neg he]
      have := congrArg (fun l => l[i]?) ht
      simpa only [List.getElem?_take, if_pos (show i < n by omega)] using this
  · rw [if_neg hi, if_neg hi]
theorem u8_bounds {l : List Int} (h : ∀ x ∈ l, 0 ≤ x ∧ x ≤ 255) (n : Nat) : 0 ≤ l.getD n 0 ∧ l.getD n 0 ≤ 255 := by
  rw [List.getD_eq_getElem?_getD]
  cases e : l[n]? with
  | none => simp
  | some x =>
    exact h x (List.mem_of_getElem? e)
theorem getD_map {α β : Type} (c : α → β) (l : List α) (n : Nat) (d : α) : (l.map c).getD n (c d) = c (l.getD n d) := by
  simp only [List.getD_eq_getElem?_getD, List.getElem?_map]
  cases l[n]? <;> rfl
/-- It ends, with true just where p holds. -/
def EvB (g : Nat → Option Bool) (p : Prop) : Prop := ∃ b, Ev g b ∧ (b = true ↔ p)
theorem EvB.iff {g : Nat → Option Bool} {p q : Prop} (h : EvB g p) (h' : p ↔ q) : EvB g q := by
  obtain ⟨b, hb, ib⟩ := h
  exact ⟨b, hb, ib.trans h'⟩
theorem EvB.dec {c : Prop} [Decidable c] : EvB (fun _ => some (decide c)) c := ⟨decide c, Ev.now _, decide_eq_true_iff⟩
theorem EvB.ite {c : Prop} [Decidable c] {A : Nat → Option Bool} {p : Prop} (h : EvB A p) : EvB (fun n => if c then A n else some false) (c ∧ p) := by
  obtain ⟨b, hb, ib⟩ := h
  by_cases hc : c
  · exact ⟨b, ev_pos hc hb, ⟨fun h => ⟨hc, ib.1 h⟩, fun h => ib.2 h.2⟩⟩
  · exact ⟨false, ev_neg hc (Ev.now _), ⟨fun h => (Bool.false_ne_true h).elim, fun h => absurd h.1 hc⟩⟩
theorem EvB.ite_not {c : Prop} [Decidable c] {A : Nat → Option Bool} {p : Prop} (h : EvB A p) : EvB (fun n => if c then some false else A n) (¬ c ∧ p) := by
  obtain ⟨b, hb, ib⟩ := h
  by_cases hc : c
  · exact ⟨false, ev_pos hc (Ev.now _), ⟨fun h => (Bool.false_ne_true h).elim, fun h => absurd hc h.1⟩⟩
  · exact ⟨b, ev_neg hc hb, ⟨fun h => ⟨hc, ib.1 h⟩, fun h => ib.2 h.2⟩⟩
theorem EvB.bind {g A : Nat → Option Bool} {p q : Prop} (h : EvB g p) (h' : EvB A q) : EvB (fun n => (g n).bind fun t => if t = true then A n else some false) (p ∧ q) := by
  obtain ⟨b, hb, ib⟩ := h
  obtain ⟨c, hc, ic⟩ := h'
  cases b with
  | true => exact ⟨c, Ev.bind hb (ev_pos rfl hc), ⟨fun h => ⟨ib.1 rfl, ic.1 h⟩, fun h => ic.2 h.2⟩⟩
  | false => exact ⟨false, Ev.bind hb (ev_neg (by decide) (Ev.now _)), ⟨fun h => (Bool.false_ne_true h).elim, fun h => absurd (ib.2 h.1) (by decide)⟩⟩
theorem EvB.last {g : Nat → Option Bool} {p : Prop} (h : EvB g p) : EvB (fun n => (g n).bind fun t => some t) p := by
  obtain ⟨b, hb, ib⟩ := h
  exact ⟨b, Ev.bind hb (Ev.now _), ib⟩
theorem EvB.same {g g' : Nat → Option Bool} {p : Prop} (h : EvB g p) (h' : EvB g' p) : ∃ b, Ev g b ∧ Ev g' b ∧ (b = true ↔ p) := by
  obtain ⟨b, hb, ib⟩ := h
  obtain ⟨c, hc, ic⟩ := h'
  obtain rfl : c = b := bool_eq_of_iff ic ib
  exact ⟨c, hb, hc, ib⟩
theorem EvB.bindE {g A B : Nat → Option Bool} {p q : Prop} (hB : Ev B false) (h : EvB g p) (h' : EvB A q) : EvB (fun n => (g n).bind fun t => if t = true then A n else B n) (p ∧ q) := by
  obtain ⟨b, hb, ib⟩ := h
  obtain ⟨c, hc, ic⟩ := h'
  cases b with
  | true => exact ⟨c, Ev.bind hb (ev_pos rfl hc), ⟨fun h => ⟨ib.1 rfl, ic.1 h⟩, fun h => ic.2 h.2⟩⟩
  | false => exact ⟨false, Ev.bind hb (ev_neg (by decide) hB), ⟨fun h => (Bool.false_ne_true h).elim, fun h => absurd (ib.2 h.1) (by decide)⟩⟩
theorem EvB.iteE {c : Prop} [Decidable c] {A B : Nat → Option Bool} {p : Prop} (hB : Ev B false) (h : EvB A p) : EvB (fun n => if c then A n else B n) (c ∧ p) := by
  obtain ⟨b, hb, ib⟩ := h
  by_cases hc : c
  · exact ⟨b, ev_pos hc hb, ⟨fun h => ⟨hc, ib.1 h⟩, fun h => ib.2 h.2⟩⟩
  · exact ⟨false, ev_neg hc hB, ⟨fun h => (Bool.false_ne_true h).elim, fun h => absurd h.1 hc⟩⟩
theorem EvB.bindN {g : Nat → Option Bool} {J : Nat → Bool → Option Bool} {p q : Prop} (hB : Ev (fun n => J n true) false) (h : EvB g p) (h' : EvB (fun n => J n false) q) : EvB (fun n => (g n).bind fun t => J n (!t)) (p ∧ q) := by
  obtain ⟨b, hb, ib⟩ := h
  obtain ⟨c, hc, ic⟩ := h'
  cases b with
  | true => exact ⟨c, Ev.bind hb hc, ⟨fun h => ⟨ib.1 rfl, ic.1 h⟩, fun h => ic.2 h.2⟩⟩
  | false => exact ⟨false, Ev.bind hb hB, ⟨fun h => (Bool.false_ne_true h).elim, fun h => absurd (ib.2 h.1) (by decide)⟩⟩
theorem EvB.succ {g : Nat → Option Bool} {p : Prop} (h : EvB (fun k => g (k + 1)) p) : EvB g p := by
  obtain ⟨b, hb, ib⟩ := h
  exact ⟨b, ev_succ hb, ib⟩
theorem EvB.true_ {p : Prop} (h : p) : EvB (fun _ => some true) p := ⟨true, Ev.now _, ⟨fun _ => h, fun _ => rfl⟩⟩
theorem EvB.false_ {p : Prop} (h : ¬ p) : EvB (fun _ => some false) p := ⟨false, Ev.now _, ⟨fun e => (Bool.false_ne_true e).elim, fun e => absurd e h⟩⟩
theorem EvB.pos {c : Prop} [Decidable c] {A B : Nat → Option Bool} {p : Prop} (hc : c) (h : EvB A p) : EvB (fun n => if c then A n else B n) p := by
  simpa only [if_pos hc] using h
theorem EvB.neg {c : Prop} [Decidable c] {A B : Nat → Option Bool} {p : Prop} (hc : ¬ c) (h : EvB B p) : EvB (fun n => if c then A n else B n) p := by
  simpa only [if_neg hc] using h

theorem spec_in_eq (a b c : Int) : spec_l1In.f a b c = some (decide (b ≤ a ∧ a ≤ c)) := by
  unfold spec_l1In.f
  split
  · congr 1
    rw [decide_eq_decide]
    omega
  · congr 1
    symm
    rw [decide_eq_false_iff_not]
    omega
theorem spec_in_evB (a b c : Int) : EvB (fun _ => spec_l1In.f a b c) (b ≤ a ∧ a ≤ c) := by
  rw [spec_in_eq]
  exact EvB.dec

theorem impl_in_eq (a b c : Int) : impl_in.f a b c = some (decide (b ≤ a ∧ a ≤ c)) := by
  unfold impl_in.f
  split
  · congr 1
    rw [decide_eq_decide]
    omega
  · congr 1
    symm
    rw [decide_eq_false_iff_not]
    omega
theorem impl_in_evB (a b c : Int) : EvB (fun _ => impl_in.f a b c) (b ≤ a ∧ a ≤ c) := by
  rw [impl_in_eq]
  exact EvB.dec

def PhOk (x : S124) : Prop := (-100 ≤ x.f0 ∧ x.f0 ≤ 100) ∧ (1 ≤ x.f1 ∧ x.f1 ≤ 1000)
instance (x : S124) : Decidable (PhOk x) := by unfold PhOk; infer_instance
def PhasesP (s : Int) (l : List S124) : Prop := (∀ n, n < l.length → PhOk (l.getD n z124)) ∧ (0 ≤ s ∧ s ≤ 100000) ∧ l.length ≤ 12
theorem rdP_nat (l : List S124) (n : Nat) : rd_T124 l (n : Int) = l.getD n z124 := by
  unfold rd_T124
  rw [Int.toNat_natCast]
/-- The heights behind the phases, in Go's own numbers. -/
def hts (s : Int) : List S124 → List Int
  | [] => []
  | p :: ps => wrap64 (s + wrap64 (p.f0 * p.f1)) :: hts (wrap64 (s + wrap64 (p.f0 * p.f1))) ps
theorem hts_length (l : List S124) : ∀ s, (hts s l).length = l.length := by
  induction l with
  | nil => intro s; rfl
  | cons p ps ih => intro s; simp [hts, ih]
theorem spec_phases_ev (s : Int) (l : List S124) (hx : l.length ≤ 9223372036854775807) : EvB (fun k => spec_l3Phases.f k s l) (PhasesP s l) := by
  have key : ∀ (d n : Nat), n + d = l.length → (∀ m, m < n → PhOk (l.getD m z124)) → EvB (fun k => spec_l3Phases.l0 k s l (n : Int)) (PhasesP s l) := by
    intro d
    induction d with
    | zero =>
      intro n hn hm
      refine EvB.succ ?_
      simp only [spec_l3Phases.l0]
      refine EvB.neg (by omega) ((EvB.bind (spec_in_evB _ _ _) EvB.dec).iff ?_)
      unfold PhasesP
      constructor
      · rintro ⟨h1, h2⟩; exact ⟨fun m h => hm m (by omega), h1, by omega⟩
      · rintro ⟨_, h1, h2⟩; exact ⟨h1, by omega⟩
    | succ d ih =>
      intro n hn hm
      refine EvB.succ ?_
      simp only [spec_l3Phases.l0, spec_in_eq, Option.bind_some, rdP_nat]
      refine EvB.pos (by omega) (EvB.pos (by omega) ?_)
      rw [w64_succ (m := l.length) (n := n) (by omega) hx]
      by_cases h1 : -100 ≤ (l.getD n z124).f0 ∧ (l.getD n z124).f0 ≤ 100
      · refine EvB.pos (by simpa using h1) ?_
        by_cases h2 : 1 ≤ (l.getD n z124).f1 ∧ (l.getD n z124).f1 ≤ 1000
        · refine EvB.pos (by simpa using h2) (ih (n + 1) (by omega) (fun m hm' => ?_))
          by_cases e : m = n
          · subst e; exact ⟨h1, h2⟩
          · exact hm m (by omega)
        · exact EvB.neg (by simpa using h2) (EvB.false_ (fun h => h2 (h.1 n (by omega)).2))
      · exact EvB.neg (by simpa using h1) (EvB.false_ (fun h => h1 (h.1 n (by omega)).1))
  unfold spec_l3Phases.f
  exact key l.length 0 (by omega) (fun m h => by omega)
theorem drop_cons {l : List S124} {n : Nat} (h : n < l.length) : l.drop n = l.getD n z124 :: l.drop (n + 1) := by
  rw [List.drop_eq_getElem_cons h, List.getD_eq_getElem?_getD, List.getElem?_eq_getElem h]
  rfl
theorem spec_climbs_loop (l : List S124) (hl : l.length ≤ 12) : ∀ (d n : Nat) (s : Int) (xs : List Int), n + d = l.length → xs.length ≤ n → Ev (fun k => spec_Climbs.l0 k s l xs (n : Int)) (xs ++ hts s (l.drop n), true) := by
  intro d
  induction d with
  | zero =>
    intro n s xs hn hx
    refine ev_succ ?_
    simp only [spec_Climbs.l0]
    refine ev_neg (by omega) ?_
    rw [List.drop_of_length_le (by omega)]
    simp only [hts, List.append_nil]
    exact Ev.now _
  | succ d ih =>
    intro n s xs hn hx
    refine ev_succ ?_
    simp only [spec_Climbs.l0, rdP_nat]
    refine ev_pos (by omega) (ev_pos (by omega) (ev_pos (by omega) ?_))
    rw [w64_succ (m := 12) (n := n) (by omega) (by omega), drop_cons (by omega)]
    simp only [hts]
    have := ih (n + 1) (wrap64 (s + wrap64 ((l.getD n z124).f0 * (l.getD n z124).f1))) (xs ++ [wrap64 (s + wrap64 ((l.getD n z124).f0 * (l.getD n z124).f1))]) (by omega) (by simp; omega)
    simpa using this
theorem spec_climbs_ev (s : Int) (l : List S124) (hx : l.length ≤ 9223372036854775807) : (PhasesP s l → Ev (fun k => spec_Climbs.f k s l) (hts s l, true)) ∧ (¬ PhasesP s l → Ev (fun k => spec_Climbs.f k s l) ([], false)) := by
  obtain ⟨b, hb, ib⟩ := spec_phases_ev s l hx
  unfold spec_Climbs.f
  simp only [Option.bind_some]
  constructor
  · intro h
    obtain rfl : b = true := ib.2 h
    refine Ev.bind hb (ev_pos rfl ?_)
    have := spec_climbs_loop l h.2.2 l.length 0 s [] (by omega) (by simp)
    simpa using this
  · intro h
    obtain rfl : b = false := by cases b with | true => exact absurd (ib.1 rfl) h | false => rfl
    exact Ev.bind hb (ev_neg (by decide) (Ev.now _))
theorem impl_climbs_loop (l : List S124) (hl : l.length ≤ 12) : ∀ (d n : Nat) (s : Int) (xs : List Int), n + d = l.length → xs.length ≤ n →
    ((∀ m, n ≤ m → m < l.length → PhOk (l.getD m z124)) → Ev (fun k => impl_Climbs.l0 k s xs l (l.length : Int) (n : Int)) (xs ++ hts s (l.drop n), true)) ∧
    ((¬ ∀ m, n ≤ m → m < l.length → PhOk (l.getD m z124)) → Ev (fun k => impl_Climbs.l0 k s xs l (l.length : Int) (n : Int)) ([], false)) := by
  intro d
  induction d with
  | zero =>
    intro n s xs hn hx
    refine ⟨fun _ => ?_, fun h => absurd (fun m h1 h2 => by omega) h⟩
    refine ev_succ ?_
    simp only [impl_Climbs.l0]
    refine ev_neg (by omega) ?_
    rw [List.drop_of_length_le (by omega)]
    simp only [hts, List.append_nil]
    exact Ev.now _
  | succ d ih =>
    intro n s xs hn hx
    have e1 := w64_succ (m := 12) (n := n) (by omega) (by omega)
    obtain ⟨a, b⟩ := ih (n + 1) (wrap64 (s + wrap64 ((l.getD n z124).f0 * (l.getD n z124).f1))) (xs ++ [wrap64 (s + wrap64 ((l.getD n z124).f0 * (l.getD n z124).f1))]) (by omega) (by simp; omega)
    by_cases h1 : -100 ≤ (l.getD n z124).f0 ∧ (l.getD n z124).f0 ≤ 100
    · by_cases h2 : 1 ≤ (l.getD n z124).f1 ∧ (l.getD n z124).f1 ≤ 1000
      · constructor
        · intro h
          refine ev_succ ?_
          simp only [impl_Climbs.l0, rdP_nat, impl_in_eq, Option.bind_some, e1]
          refine ev_pos (by omega) (ev_pos (by omega) (ev_pos (by omega) (ev_pos (by simpa using h1) (ev_pos (by simpa using h2) (ev_pos (by omega) ?_)))))
          rw [drop_cons (by omega)]
          simp only [hts]
          have := a (fun m h3 h4 => h m (by omega) h4)
          simpa using this
        · intro h
          refine ev_succ ?_
          simp only [impl_Climbs.l0, rdP_nat, impl_in_eq, Option.bind_some, e1]
          refine ev_pos (by omega) (ev_pos (by omega) (ev_pos (by omega) (ev_pos (by simpa using h1) (ev_pos (by simpa using h2) (ev_pos (by omega) (b ?_))))))
          intro h3
          refine h (fun m h4 h5 => ?_)
          by_cases e : m = n
          · subst e; exact ⟨h1, h2⟩
          · exact h3 m (by omega) h5
      · refine ⟨fun h => absurd (h n (by omega) (by omega)).2 h2, fun _ => ?_⟩
        refine ev_succ ?_
        simp only [impl_Climbs.l0, rdP_nat, impl_in_eq, Option.bind_some, e1]
        exact ev_pos (by omega) (ev_pos (by omega) (ev_pos (by omega) (ev_pos (by simpa using h1) (ev_neg (by simpa using h2) (Ev.now _)))))
    · refine ⟨fun h => absurd (h n (by omega) (by omega)).1 h1, fun _ => ?_⟩
      refine ev_succ ?_
      simp only [impl_Climbs.l0, rdP_nat, impl_in_eq, Option.bind_some, e1]
      exact ev_pos (by omega) (ev_pos (by omega) (ev_pos (by omega) (ev_neg (by simpa using h1) (Ev.now _))))
theorem impl_climbs_ev (s : Int) (l : List S124) (hx : l.length ≤ 9223372036854775807) : (PhasesP s l → Ev (fun k => impl_Climbs.f k s l) (hts s l, true)) ∧ (¬ PhasesP s l → Ev (fun k => impl_Climbs.f k s l) ([], false)) := by
  have bad : Ev (fun k => impl_Climbs.j0 k s l true) ([], false) := by
    refine ev_succ ?_
    simp only [impl_Climbs.j0]
    exact ev_pos (by trivial) (Ev.now _)
  unfold impl_Climbs.f
  simp only [impl_in_eq, Option.bind_some]
  by_cases h1 : 0 ≤ s ∧ s ≤ 100000
  · simp only [decide_eq_true h1]
    by_cases h2 : (l.length : Int) > 12
    · simp only [decide_eq_true h2]
      exact ⟨fun h => by have := h.2.2; omega, fun _ => ev_pos (by trivial) bad⟩
    · simp only [decide_eq_false h2]
      obtain ⟨a, b⟩ := impl_climbs_loop l (by omega) l.length 0 s [] (by omega) (by simp)
      constructor
      · intro h
        refine ev_pos (by trivial) (ev_succ ?_)
        simp only [impl_Climbs.j0]
        refine ev_neg (by decide) ?_
        have := a (fun m _ h3 => h.1 m h3)
        simpa using this
      · intro h
        refine ev_pos (by trivial) (ev_succ ?_)
        simp only [impl_Climbs.j0]
        refine ev_neg (by decide) ?_
        exact b (fun h3 => h ⟨fun m h4 => h3 m (by omega) h4, h1, by omega⟩)
  · simp only [decide_eq_false h1]
    exact ⟨fun h => absurd h.2.1 h1, fun _ => ev_neg (by decide) bad⟩

theorem szPhaseS_eq (l : List S126) (m : Int) (h0 : 0 ≤ m) (h1 : m ≤ 1048576) (hl : l.length ≤ 9223372036854775807) : laws_szPhaseS.f l m = some (if m - l.length < 0 then -1 else m - l.length) := by
  unfold laws_szPhaseS.f
  rw [w64 (x := m - (l.length : Int)) (by omega) (by omega)]
  by_cases h : m - (l.length : Int) < 0
  · rw [if_pos h, if_pos h]
  · rw [if_neg h, if_neg h]

def c_Phase (x : S126) : S124 := ⟨x.f0, x.f1⟩
theorem toPhaseS_loop (x0 : List S126) (hx : x0.length ≤ 9223372036854775807) : ∀ (d n : Nat) (x3 : List S124), n + d = x0.length → x3.length = x0.length → x3.take n = (x0.map c_Phase).take n → Ev (fun k => laws_toPhaseS.l0 k x0 x3 (n : Int)) (x0.map c_Phase) := by
  intro d
  induction d with
  | zero =>
    intro n x3 hn hl ht
    refine ev_succ ?_
    simp only [laws_toPhaseS.l0]
    refine ev_neg (by omega) ?_
    have e : x3 = x0.map c_Phase := by rw [← List.take_of_length_le (l := x3) (i := n) (by omega), ht, List.take_of_length_le (by simp; omega)]
    rw [e]
    exact Ev.now _
  | succ d ih =>
    intro n x3 hn hl ht
    have e : (⟨(rd_T126 x0 (n : Int)).f0, (rd_T126 x0 (n : Int)).f1⟩ : S124) = (x0.map c_Phase).getD n (c_Phase z126) := by
      rw [getD_map]
      simp [rd_T126, c_Phase]
    refine ev_succ ?_
    simp only [laws_toPhaseS.l0, laws_toPhase.f, Option.bind_some, Int.toNat_natCast]
    refine ev_pos (by omega) (ev_pos (by omega) (ev_pos (by omega) ?_))
    rw [e, w64_succ (m := x0.length) (by omega) hx]
    exact ih (n + 1) _ (by omega) (by simpa using hl) (take_set_succ _ (by simp; omega) (by simpa using hl) ht)
theorem toPhaseS_ev (l : List S126) (h : l.length ≤ 1048576) : Ev (fun k => laws_toPhaseS.f k l) (l.map c_Phase) := by
  unfold laws_toPhaseS.f
  refine ev_pos (by omega) (ev_pos (by omega) ?_)
  exact toPhaseS_loop l (by omega) l.length 0 _ (by omega) (by simp) (by simp)

theorem eqPhase_eq (a0 : Int) (a1 : Int) : laws_eqPhase.f a0 a1 a0 a1 = some true := by
  simp [laws_eqPhase.f]
theorem eqPhaseS_loop (x0 : List S124) (hx : x0.length ≤ 9223372036854775807) : ∀ (d n : Nat), n + d = x0.length → Ev (fun k => laws_eqPhaseS.l0 k x0 x0 (n : Int)) true := by
  intro d
  induction d with
  | zero =>
    intro n hn
    refine ev_succ ?_
    simp only [laws_eqPhaseS.l0]
    exact ev_neg (by omega) (Ev.now _)
  | succ d ih =>
    intro n hn
    refine ev_succ ?_
    simp only [laws_eqPhaseS.l0, eqPhase_eq, Option.bind_some]
    refine ev_pos (by omega) (ev_pos (by omega) (ev_pos (by omega) (ev_pos (by trivial) ?_)))
    rw [w64_succ (m := x0.length) (by omega) hx]
    exact ih (n + 1) (by omega)
theorem eqPhaseS_ev (l : List S124) (h : l.length ≤ 9223372036854775807) : Ev (fun k => laws_eqPhaseS.f k l l) true := by
  unfold laws_eqPhaseS.f
  exact ev_pos (by trivial) (eqPhaseS_loop l h l.length 0 (by omega))

def marks_Phase (m : Int) (n : Nat) : List S124 := (List.range n).map fun (i : Nat) => ⟨m + 2 * (i : Int), m + 2 * (i : Int) + 1⟩
theorem markPhaseS_loop (N : Nat) (hN : N ≤ 100000000) (m0 : Int) (hm0 : 0 ≤ m0) (hm1 : m0 ≤ 100000000) : ∀ (d n : Nat) (x0 : List S124) (m : Int), n + d = N → x0.length = N → m = m0 + 2 * n → x0.take n = (marks_Phase m0 N).take n → Ev (fun k => laws_markPhaseS.l0 k x0 m (n : Int)) (m0 + 2 * N, marks_Phase m0 N) := by
  intro d
  induction d with
  | zero =>
    intro n x0 m hn hl hm ht
    refine ev_succ ?_
    simp only [laws_markPhaseS.l0]
    refine ev_neg (by omega) ?_
    have e : x0 = marks_Phase m0 N := by rw [← List.take_of_length_le (l := x0) (i := n) (by omega), ht, List.take_of_length_le (by simp [marks_Phase]; omega)]
    rw [e, hm, show n = N by omega]
    exact Ev.now _
  | succ d ih =>
    intro n x0 m hn hl hm ht
    refine ev_succ ?_
    simp only [laws_markPhaseS.l0, Option.bind_some, Int.toNat_natCast]
    refine ev_pos (by omega) (ev_pos (by omega) ?_)
    have hlt : n < x0.length := by omega
    have e1 : ∀ x : S124, rd_T124 (x0.set n x) (n : Int) = x := by
      intro x
      unfold rd_T124
      rw [Int.toNat_natCast, List.getD_eq_getElem?_getD, List.getElem?_set_self hlt]
      rfl
    simp only [e1, List.set_set, w64_succ (m := N) (n := n) (by omega) (by omega)]
    have key := ih (n + 1) (x0.set n ⟨m, m + 1⟩) (m + 2) (by omega) (by simpa using hl) (by omega) (by
      have := take_set_succ z124 (x0 := marks_Phase m0 N) (x3 := x0) (n := n) (by simp [marks_Phase]; omega) (by simp [marks_Phase]; omega) ht
      rw [show (marks_Phase m0 N).getD n z124 = ⟨m, m + 1⟩ by
        simp only [marks_Phase, List.getD_eq_getElem?_getD, List.getElem?_map, List.getElem?_range (show n < N by omega), Option.map_some, Option.getD_some, hm]
        try (congr 1 <;> omega)] at this
      exact this)
    rw [w64 (x := m + 1) (by omega) (by omega), w64 (x := m + 1 + 1) (by omega) (by omega)]
    rw [show m + 1 + 1 = m + 2 by omega]
    exact key
theorem markPhaseS_ev (l : List S124) (h : l.length ≤ 100000000) (m : Int) (h0 : 0 ≤ m) (h1 : m ≤ 100000000) : Ev (fun k => laws_markPhaseS.f k l m) (m + 2 * l.length, marks_Phase m l.length) := by
  unfold laws_markPhaseS.f
  exact markPhaseS_loop l.length h m h0 h1 l.length 0 l m (by omega) rfl (by omega) (by simp)

theorem eqIntS_loop (x0 : List Int) (hx : x0.length ≤ 9223372036854775807) : ∀ (d n : Nat), n + d = x0.length → Ev (fun k => laws_eqIntS.l0 k x0 x0 (n : Int)) true := by
  intro d
  induction d with
  | zero =>
    intro n hn
    refine ev_succ ?_
    simp only [laws_eqIntS.l0]
    exact ev_neg (by omega) (Ev.now _)
  | succ d ih =>
    intro n hn
    refine ev_succ ?_
    simp only [laws_eqIntS.l0]
    refine ev_pos (by omega) (ev_pos (by omega) (ev_pos (by omega) (ev_pos (by trivial) ?_)))
    rw [w64_succ (m := x0.length) (by omega) hx]
    exact ih (n + 1) (by omega)
theorem eqIntS_ev (l : List Int) (h : l.length ≤ 9223372036854775807) : Ev (fun k => laws_eqIntS.f k l l) true := by
  unfold laws_eqIntS.f
  exact ev_pos (by trivial) (eqIntS_loop l h l.length 0 (by omega))

def marksI (m : Int) (n : Nat) : List Int := (List.range n).map fun (i : Nat) => m + (i : Int)
theorem marksI_get (m : Int) (N n : Nat) (h : n < N) : (marksI m N).getD n 0 = m + n := by
  simp only [marksI, List.getD_eq_getElem?_getD, List.getElem?_map, List.getElem?_range h, Option.map_some, Option.getD_some]
theorem markIntS_loop (N : Nat) (hN : N ≤ 100000000) (m0 : Int) (hm0 : 0 ≤ m0) (hm1 : m0 ≤ 100000000) : ∀ (d n : Nat) (x0 : List Int) (m : Int), n + d = N → x0.length = N → m = m0 + n → x0.take n = (marksI m0 N).take n → Ev (fun k => laws_markIntS.l0 k x0 m (n : Int)) (m0 + N, marksI m0 N) := by
  intro d
  induction d with
  | zero =>
    intro n x0 m hn hl hm ht
    refine ev_succ ?_
    simp only [laws_markIntS.l0]
    refine ev_neg (by omega) ?_
    have e : x0 = marksI m0 N := by rw [← List.take_of_length_le (l := x0) (i := n) (by omega), ht, List.take_of_length_le (by simp [marksI]; omega)]
    rw [e, hm, show n = N by omega]
    exact Ev.now _
  | succ d ih =>
    intro n x0 m hn hl hm ht
    refine ev_succ ?_
    simp only [laws_markIntS.l0, Int.toNat_natCast]
    refine ev_pos (by omega) (ev_pos (by omega) ?_)
    rw [w64_succ (m := N) (n := n) (by omega) (by omega), w64 (x := m + 1) (by omega) (by omega)]
    refine ih (n + 1) (x0.set n m) (m + 1) (by omega) (by simpa using hl) (by omega) ?_
    have := take_set_succ 0 (x0 := marksI m0 N) (x3 := x0) (n := n) (by simp [marksI]; omega) (by simp [marksI]; omega) ht
    rw [marksI_get _ _ _ (by omega), ← hm] at this
    exact this
theorem markIntS_ev (l : List Int) (h : l.length ≤ 100000000) (m : Int) (h0 : 0 ≤ m) (h1 : m ≤ 100000000) : Ev (fun k => laws_markIntS.f k l m) (m + l.length, marksI m l.length) := by
  unfold laws_markIntS.f
  exact markIntS_loop l.length h m h0 h1 l.length 0 l m (by omega) rfl (by omega) (by simp)
theorem heldIntS_loop (N : Nat) (hN : N ≤ 100000000) (m0 : Int) (hm0 : 0 ≤ m0) (hm1 : m0 ≤ 100000000) : ∀ (d n : Nat) (m : Int), n + d = N → m = m0 + n → Ev (fun k => laws_heldIntS.l0 k (marksI m0 N) m (n : Int)) (m0 + N) := by
  have hlen : (marksI m0 N).length = N := by simp [marksI]
  intro d
  induction d with
  | zero =>
    intro n m hn hm
    refine ev_succ ?_
    simp only [laws_heldIntS.l0, hlen]
    refine ev_neg (by omega) ?_
    rw [hm, show n = N by omega]
    exact Ev.now _
  | succ d ih =>
    intro n m hn hm
    refine ev_succ ?_
    simp only [laws_heldIntS.l0, hlen, rd_nat, marksI_get m0 N n (by omega)]
    refine ev_pos (by omega) (ev_pos (by omega) (ev_pos hm.symm ?_))
    rw [w64_succ (m := N) (n := n) (by omega) (by omega), w64 (x := m + 1) (by omega) (by omega)]
    exact ih (n + 1) (m + 1) (by omega) (by omega)
theorem heldIntS_ev (n : Nat) (h : n ≤ 100000000) (m : Int) (h0 : 0 ≤ m) (h1 : m ≤ 100000000) : Ev (fun k => laws_heldIntS.f k (marksI m n) m) (m + n) := by
  unfold laws_heldIntS.f
  exact heldIntS_loop n h m h0 h1 n 0 m (by omega) (by omega)

theorem climbs_both (s : Int) (l : List S124) (hx : l.length ≤ 1048576) : ∃ r, Ev (fun k => spec_Climbs.f k s l) r ∧ Ev (fun k => impl_Climbs.f k s l) r ∧ r.1.length ≤ 12 := by
  obtain ⟨a, b⟩ := spec_climbs_ev s l (by omega)
  obtain ⟨c, d⟩ := impl_climbs_ev s l (by omega)
  by_cases h : PhasesP s l
  · exact ⟨_, a h, c h, by rw [hts_length]; exact h.2.2⟩
  · exact ⟨_, b h, d h, by simp⟩
theorem FnExactClimbs : laws_FnExactClimbs.PureR := by
  intro s l _ ⟨hx, _⟩
  refine Ev.rounds ?_
  unfold laws_FnExactClimbs.f
  rw [szPhaseS_eq l _ (by omega) (by omega) hx]
  simp only [Option.bind_some]
  by_cases hb : (1048576 : Int) - l.length < 0
  · rw [if_pos hb]
    exact ev_pos (by omega) (Ev.now _)
  rw [if_neg hb]
  obtain ⟨⟨r, ok⟩, h1, h2, hr⟩ := climbs_both s (l.map c_Phase) (by simp; omega)
  have hr' : r.length ≤ 12 := hr
  have ht := toPhaseS_ev l (by omega)
  have he := eqIntS_ev r (by omega)
  have hp := eqPhaseS_ev (l.map c_Phase) (by simp; omega)
  have hm := markPhaseS_ev (l.map c_Phase) (by simp; omega) 1 (by omega) (by omega)
  have hi := markIntS_ev r (by omega) 1 (by omega) (by omega)
  have hh := heldIntS_ev r.length (by omega) 1 (by omega) (by omega)
  refine ev_neg hb (Ev.bind ht (Ev.bind h1 (Ev.bind ht (Ev.bind h2 (Ev.bind he (ev_pos (by trivial) (ev_succ ?_)))))))
  simp only [laws_FnExactClimbs.j0]
  refine ev_neg (by simp) (Ev.bind ht (Ev.bind hp (ev_pos (by trivial) (Ev.bind hm (ev_neg (by simp; omega) (Ev.bind he (ev_pos (by trivial) (ev_succ ?_))))))))
  simp only [laws_FnExactClimbs.j1]
  refine ev_neg (by simp) (Ev.bind hi (Ev.bind hh (ev_neg (by omega) (ev_pos (by trivial) (Ev.bind ht (Ev.bind h2 (Ev.bind he (ev_pos (by trivial) (ev_succ ?_)))))))))
  simp only [laws_FnExactClimbs.j2]
  exact ev_neg (by simp) (Ev.bind hh (ev_neg (by omega) (ev_pos (by trivial) (Ev.now _))))

end Go.Proofs.Ytgbkmbdciknedaa.Pure
