/- Proved here: of drawn peaks the first that is not cleared is so by the peaks before it and by itself alone, and a smaller margin is cleared at least as far; no condition. -/
import Derived.Test.YtnphbpkpjinddaaPureDefFnClears
namespace Go.Proofs.Ytnphbpkpjinddaa.Pure
open Go.RowKit Go.Proofs.Ytnphbpkpjinddaa.QFnClears Go.Proofs.YtnphbpkpjinddaaW.PrintWords Go.Proofs.YtnphbpkpjinddaaW.PrintLast Go.Proofs.YtnphbpkpjinddaaW.PrintMore
set_option linter.unusedVariables false
set_option linter.unusedSimpArgs false

theorem ev_pos {c : Prop} [Decidable c] {α : Type} {A B : Nat → Option α} {r : α} (h : c) (k : Ev A r) : Ev (fun n => if c then A n else B n) r := by
  simpa only [if_pos h] using k
theorem ev_neg {c : Prop} [Decidable c] {α : Type} {A B : Nat → Option α} {r : α} (h : ¬ c) (k : Ev B r) : Ev (fun n => if c then A n else B n) r := by
  simpa only [if_neg h] using k
theorem ev_succ {α : Type} {g : Nat → Option α} {r : α} (h : Ev (fun k => g (k + 1)) r) : Ev g r := Ev.step (fun _ => rfl) h
theorem ex_succ {α : Type} {g : Nat → Option α} (h : ∃ r, Ev (fun k => g (k + 1)) r) : ∃ r, Ev g r := by
  obtain ⟨r, h⟩ := h
  exact ⟨r, ev_succ h⟩
theorem ev_one {α : Type} {g : Nat → Option α} {r q : α} (h : Ev g r) (h' : Ev g q) : r = q := by
  obtain ⟨K, hK⟩ := h
  obtain ⟨L, hL⟩ := h'
  have a := hK (max K L) (Nat.le_max_left _ _)
  have b := hL (max K L) (Nat.le_max_right _ _)
  exact Option.some.inj (a.symm.trans b)
theorem ev_bool {α : Type} {A B : Nat → Option α} {r : α} (b : Bool) (h1 : b = true → Ev A r) (h2 : b = false → Ev B r) : Ev (fun n => if b = true then A n else B n) r := by
  cases b with
  | true => exact ev_pos (by trivial) (h1 rfl)
  | false => exact ev_neg (by decide) (h2 rfl)
theorem bool_eq_of_iff {a b : Bool} {p : Prop} (h : a = true ↔ p) (h' : b = true ↔ p) : a = b := by
  rw [Bool.eq_iff_iff]
  exact h.trans h'.symm
theorem w64 {x : Int} (h0 : -9223372036854775808 ≤ x) (h1 : x ≤ 9223372036854775807) : wrap64 x = x := by
  unfold wrap64
  omega
theorem w64_succ {n m : Nat} (h : n < m) (hm : m ≤ 9223372036854775807) : wrap64 ((n : Int) + 1) = ((n + 1 : Nat) : Int) := by
  unfold wrap64
  omega
theorem rd_nat (l : List Int) (n : Nat) : rd l (n : Int) = l.getD n 0 := by
  unfold rd
  rw [Int.toNat_natCast]
theorem take_set_succ {α : Type} (d : α) {x0 x3 : List α} {n : Nat} (h : n < x0.length) (hl : x3.length = x0.length) (ht : x3.take n = x0.take n) : (x3.set n (x0.getD n d)).take (n + 1) = x0.take (n + 1) := by
  apply List.ext_getElem?
  intro i
  simp only [List.getElem?_take, List.getElem?_set]
  by_cases hi : i < n + 1
  · rw [if_pos hi, if_pos hi]
    by_cases he : n = i
    · subst he
      rw [if_pos rfl, if_pos (by omega), List.getD_eq_getElem?_getD, List.getElem?_eq_getElem h]
      rfl
    · rw [if_neg he]
      have := congrArg (fun l => l[i]?) ht
      simpa only [List.getElem?_take, if_pos (show i < n by omega)] using this
  · rw [if_neg hi, if_neg hi]
theorem u8_bounds {l : List Int} (h : ∀ x ∈ l, 0 ≤ x ∧ x ≤ 255) (n : Nat) : 0 ≤ l.getD n 0 ∧ l.getD n 0 ≤ 255 := by
  rw [List.getD_eq_getElem?_getD]
  cases e : l[n]? with
  | none => simp
  | some x =>
    exact h x (List.mem_of_getElem? e)
theorem getD_map {α β : Type} (c : α → β) (l : List α) (n : Nat) (d : α) : (l.map c).getD n (c d) = c (l.getD n d) := by
  simp only [List.getD_eq_getElem?_getD, List.getElem?_map]
  cases l[n]? <;> rfl
/-- It ends, with true just where p holds. -/
def EvB (g : Nat → Option Bool) (p : Prop) : Prop := ∃ b, Ev g b ∧ (b = true ↔ p)
theorem EvB.iff {g : Nat → Option Bool} {p q : Prop} (h : EvB g p) (h' : p ↔ q) : EvB g q := by
  obtain ⟨b, hb, ib⟩ := h
  exact ⟨b, hb, ib.trans h'⟩
theorem EvB.dec {c : Prop} [Decidable c] : EvB (fun _ => some (decide c)) c := ⟨decide c, Ev.now _, decide_eq_true_iff⟩
theorem EvB.ite {c : Prop} [Decidable c] {A : Nat → Option Bool} {p : Prop} (h : EvB A p) : EvB (fun n => if c then A n else some false) (c ∧ p) := by
  obtain ⟨b, hb, ib⟩ := h
  by_cases hc : c
  · exact ⟨b, ev_pos hc hb, ⟨fun h => ⟨hc, ib.1 h⟩, fun h => ib.2 h.2⟩⟩
  · exact ⟨false, ev_neg hc (Ev.now _), ⟨fun h => (Bool.false_ne_true h).elim, fun h => absurd h.1 hc⟩⟩
theorem EvB.ite_not {c : Prop} [Decidable c] {A : Nat → Option Bool} {p : Prop} (h : EvB A p) : EvB (fun n => if c then some false else A n) (¬ c ∧ p) := by
  obtain ⟨b, hb, ib⟩ := h
  by_cases hc : c
  · exact ⟨false, ev_pos hc (Ev.now _), ⟨fun h => (Bool.false_ne_true h).elim, fun h => absurd hc h.1⟩⟩
  · exact ⟨b, ev_neg hc hb, ⟨fun h => ⟨hc, ib.1 h⟩, fun h => ib.2 h.2⟩⟩
theorem EvB.bind {g A : Nat → Option Bool} {p q : Prop} (h : EvB g p) (h' : EvB A q) : EvB (fun n => (g n).bind fun t => if t = true then A n else some false) (p ∧ q) := by
  obtain ⟨b, hb, ib⟩ := h
  obtain ⟨c, hc, ic⟩ := h'
  cases b with
  | true => exact ⟨c, Ev.bind hb (ev_pos rfl hc), ⟨fun h => ⟨ib.1 rfl, ic.1 h⟩, fun h => ic.2 h.2⟩⟩
  | false => exact ⟨false, Ev.bind hb (ev_neg (by decide) (Ev.now _)), ⟨fun h => (Bool.false_ne_true h).elim, fun h => absurd (ib.2 h.1) (by decide)⟩⟩
theorem EvB.last {g : Nat → Option Bool} {p : Prop} (h : EvB g p) : EvB (fun n => (g n).bind fun t => some t) p := by
  obtain ⟨b, hb, ib⟩ := h
  exact ⟨b, Ev.bind hb (Ev.now _), ib⟩
theorem EvB.same {g g' : Nat → Option Bool} {p : Prop} (h : EvB g p) (h' : EvB g' p) : ∃ b, Ev g b ∧ Ev g' b ∧ (b = true ↔ p) := by
  obtain ⟨b, hb, ib⟩ := h
  obtain ⟨c, hc, ic⟩ := h'
  obtain rfl : c = b := bool_eq_of_iff ic ib
  exact ⟨c, hb, hc, ib⟩
theorem EvB.bindE {g A B : Nat → Option Bool} {p q : Prop} (hB : Ev B false) (h : EvB g p) (h' : EvB A q) : EvB (fun n => (g n).bind fun t => if t = true then A n else B n) (p ∧ q) := by
  obtain ⟨b, hb, ib⟩ := h
  obtain ⟨c, hc, ic⟩ := h'
  cases b with
  | true => exact ⟨c, Ev.bind hb (ev_pos rfl hc), ⟨fun h => ⟨ib.1 rfl, ic.1 h⟩, fun h => ic.2 h.2⟩⟩
  | false => exact ⟨false, Ev.bind hb (ev_neg (by decide) hB), ⟨fun h => (Bool.false_ne_true h).elim, fun h => absurd (ib.2 h.1) (by decide)⟩⟩
theorem EvB.iteE {c : Prop} [Decidable c] {A B : Nat → Option Bool} {p : Prop} (hB : Ev B false) (h : EvB A p) : EvB (fun n => if c then A n else B n) (c ∧ p) := by
  obtain ⟨b, hb, ib⟩ := h
  by_cases hc : c
  · exact ⟨b, ev_pos hc hb, ⟨fun h => ⟨hc, ib.1 h⟩, fun h => ib.2 h.2⟩⟩
  · exact ⟨false, ev_neg hc hB, ⟨fun h => (Bool.false_ne_true h).elim, fun h => absurd h.1 hc⟩⟩
theorem EvB.bindN {g : Nat → Option Bool} {J : Nat → Bool → Option Bool} {p q : Prop} (hB : Ev (fun n => J n true) false) (h : EvB g p) (h' : EvB (fun n => J n false) q) : EvB (fun n => (g n).bind fun t => J n (!t)) (p ∧ q) := by
  obtain ⟨b, hb, ib⟩ := h
  obtain ⟨c, hc, ic⟩ := h'
  cases b with
  | true => exact ⟨c, Ev.bind hb hc, ⟨fun h => ⟨ib.1 rfl, ic.1 h⟩, fun h => ic.2 h.2⟩⟩
  | false => exact ⟨false, Ev.bind hb hB, ⟨fun h => (Bool.false_ne_true h).elim, fun h => absurd (ib.2 h.1) (by decide)⟩⟩
theorem EvB.succ {g : Nat → Option Bool} {p : Prop} (h : EvB (fun k => g (k + 1)) p) : EvB g p := by
  obtain ⟨b, hb, ib⟩ := h
  exact ⟨b, ev_succ hb, ib⟩
theorem EvB.true_ {p : Prop} (h : p) : EvB (fun _ => some true) p := ⟨true, Ev.now _, ⟨fun _ => h, fun _ => rfl⟩⟩
theorem EvB.false_ {p : Prop} (h : ¬ p) : EvB (fun _ => some false) p := ⟨false, Ev.now _, ⟨fun e => (Bool.false_ne_true e).elim, fun e => absurd e h⟩⟩
theorem EvB.pos {c : Prop} [Decidable c] {A B : Nat → Option Bool} {p : Prop} (hc : c) (h : EvB A p) : EvB (fun n => if c then A n else B n) p := by
  simpa only [if_pos hc] using h
theorem EvB.neg {c : Prop} [Decidable c] {A B : Nat → Option Bool} {p : Prop} (hc : ¬ c) (h : EvB B p) : EvB (fun n => if c then A n else B n) p := by
  simpa only [if_neg hc] using h

theorem spec_in_eq (a b c : Int) : spec_l1In.f a b c = some (decide (b ≤ a ∧ a ≤ c)) := by
  unfold spec_l1In.f
  split
  · congr 1
    rw [decide_eq_decide]
    omega
  · congr 1
    symm
    rw [decide_eq_false_iff_not]
    omega
theorem spec_in_evB (a b c : Int) : EvB (fun _ => spec_l1In.f a b c) (b ≤ a ∧ a ≤ c) := by
  rw [spec_in_eq]
  exact EvB.dec

theorem impl_in_eq (a b c : Int) : impl_in.f a b c = some (decide (b ≤ a ∧ a ≤ c)) := by
  unfold impl_in.f
  split
  · congr 1
    rw [decide_eq_decide]
    omega
  · congr 1
    symm
    rw [decide_eq_false_iff_not]
    omega
theorem impl_in_evB (a b c : Int) : EvB (fun _ => impl_in.f a b c) (b ≤ a ∧ a ≤ c) := by
  rw [impl_in_eq]
  exact EvB.dec

def PhOk (x : S137) : Prop := (-100 ≤ x.f0 ∧ x.f0 ≤ 100) ∧ (1 ≤ x.f1 ∧ x.f1 ≤ 1000)
instance (x : S137) : Decidable (PhOk x) := by unfold PhOk; infer_instance
def PhasesP (s : Int) (l : List S137) : Prop := (∀ n, n < l.length → PhOk (l.getD n z137)) ∧ (0 ≤ s ∧ s ≤ 100000) ∧ l.length ≤ 12
theorem rdP_nat (l : List S137) (n : Nat) : rd_T137 l (n : Int) = l.getD n z137 := by
  unfold rd_T137
  rw [Int.toNat_natCast]
/-- The heights behind the phases, in Go's own numbers. -/
def hts (s : Int) : List S137 → List Int
  | [] => []
  | p :: ps => wrap64 (s + wrap64 (p.f0 * p.f1)) :: hts (wrap64 (s + wrap64 (p.f0 * p.f1))) ps
theorem hts_length (l : List S137) : ∀ s, (hts s l).length = l.length := by
  induction l with
  | nil => intro s; rfl
  | cons p ps ih => intro s; simp [hts, ih]
theorem spec_phases_ev (s : Int) (l : List S137) (hx : l.length ≤ 9223372036854775807) : EvB (fun k => spec_l3Phases.f k s l) (PhasesP s l) := by
  have key : ∀ (d n : Nat), n + d = l.length → (∀ m, m < n → PhOk (l.getD m z137)) → EvB (fun k => spec_l3Phases.l0 k s l (n : Int)) (PhasesP s l) := by
    intro d
    induction d with
    | zero =>
      intro n hn hm
      refine EvB.succ ?_
      simp only [spec_l3Phases.l0]
      refine EvB.neg (by omega) ((EvB.bind (spec_in_evB _ _ _) EvB.dec).iff ?_)
      unfold PhasesP
      constructor
      · rintro ⟨h1, h2⟩; exact ⟨fun m h => hm m (by omega), h1, by omega⟩
      · rintro ⟨_, h1, h2⟩; exact ⟨h1, by omega⟩
    | succ d ih =>
      intro n hn hm
      refine EvB.succ ?_
      simp only [spec_l3Phases.l0, spec_in_eq, Option.bind_some, rdP_nat]
      refine EvB.pos (by omega) (EvB.pos (by omega) ?_)
      rw [w64_succ (m := l.length) (n := n) (by omega) hx]
      by_cases h1 : -100 ≤ (l.getD n z137).f0 ∧ (l.getD n z137).f0 ≤ 100
      · refine EvB.pos (by simpa using h1) ?_
        by_cases h2 : 1 ≤ (l.getD n z137).f1 ∧ (l.getD n z137).f1 ≤ 1000
        · refine EvB.pos (by simpa using h2) (ih (n + 1) (by omega) (fun m hm' => ?_))
          by_cases e : m = n
          · subst e; exact ⟨h1, h2⟩
          · exact hm m (by omega)
        · exact EvB.neg (by simpa using h2) (EvB.false_ (fun h => h2 (h.1 n (by omega)).2))
      · exact EvB.neg (by simpa using h1) (EvB.false_ (fun h => h1 (h.1 n (by omega)).1))
  unfold spec_l3Phases.f
  exact key l.length 0 (by omega) (fun m h => by omega)
theorem drop_cons {l : List S137} {n : Nat} (h : n < l.length) : l.drop n = l.getD n z137 :: l.drop (n + 1) := by
  rw [List.drop_eq_getElem_cons h, List.getD_eq_getElem?_getD, List.getElem?_eq_getElem h]
  rfl

theorem impl_climbs_loop (l : List S137) (hl : l.length ≤ 12) : ∀ (d n : Nat) (s : Int) (xs : List Int), n + d = l.length → xs.length ≤ n →
    ((∀ m, n ≤ m → m < l.length → PhOk (l.getD m z137)) → Ev (fun k => impl_Climbs.l0 k s xs l (l.length : Int) (n : Int)) (xs ++ hts s (l.drop n), true)) ∧
    ((¬ ∀ m, n ≤ m → m < l.length → PhOk (l.getD m z137)) → Ev (fun k => impl_Climbs.l0 k s xs l (l.length : Int) (n : Int)) ([], false)) := by
  intro d
  induction d with
  | zero =>
    intro n s xs hn hx
    refine ⟨fun _ => ?_, fun h => absurd (fun m h1 h2 => by omega) h⟩
    refine ev_succ ?_
    simp only [impl_Climbs.l0]
    refine ev_neg (by omega) ?_
    rw [List.drop_of_length_le (by omega)]
    simp only [hts, List.append_nil]
    exact Ev.now _
  | succ d ih =>
    intro n s xs hn hx
    have e1 := w64_succ (m := 12) (n := n) (by omega) (by omega)
    obtain ⟨a, b⟩ := ih (n + 1) (wrap64 (s + wrap64 ((l.getD n z137).f0 * (l.getD n z137).f1))) (xs ++ [wrap64 (s + wrap64 ((l.getD n z137).f0 * (l.getD n z137).f1))]) (by omega) (by simp; omega)
    by_cases h1 : -100 ≤ (l.getD n z137).f0 ∧ (l.getD n z137).f0 ≤ 100
    · by_cases h2 : 1 ≤ (l.getD n z137).f1 ∧ (l.getD n z137).f1 ≤ 1000
      · constructor
        · intro h
          refine ev_succ ?_
          simp only [impl_Climbs.l0, rdP_nat, impl_in_eq, Option.bind_some, e1]
          refine ev_pos (by omega) (ev_pos (by omega) (ev_pos (by omega) (ev_pos (by simpa using h1) (ev_pos (by simpa using h2) (ev_pos (by omega) ?_)))))
          rw [drop_cons (by omega)]
          simp only [hts]
          have := a (fun m h3 h4 => h m (by omega) h4)
          simpa using this
        · intro h
          refine ev_succ ?_
          simp only [impl_Climbs.l0, rdP_nat, impl_in_eq, Option.bind_some, e1]
          refine ev_pos (by omega) (ev_pos (by omega) (ev_pos (by omega) (ev_pos (by simpa using h1) (ev_pos (by simpa using h2) (ev_pos (by omega) (b ?_))))))
          intro h3
          refine h (fun m h4 h5 => ?_)
          by_cases e : m = n
          · subst e; exact ⟨h1, h2⟩
          · exact h3 m (by omega) h5
      · refine ⟨fun h => absurd (h n (by omega) (by omega)).2 h2, fun _ => ?_⟩
        refine ev_succ ?_
        simp only [impl_Climbs.l0, rdP_nat, impl_in_eq, Option.bind_some, e1]
        exact ev_pos (by omega) (ev_pos (by omega) (ev_pos (by omega) (ev_pos (by simpa using h1) (ev_neg (by simpa using h2) (Ev.now _)))))
    · refine ⟨fun h => absurd (h n (by omega) (by omega)).1 h1, fun _ => ?_⟩
      refine ev_succ ?_
      simp only [impl_Climbs.l0, rdP_nat, impl_in_eq, Option.bind_some, e1]
      exact ev_pos (by omega) (ev_pos (by omega) (ev_pos (by omega) (ev_neg (by simpa using h1) (Ev.now _))))
theorem impl_climbs_ev (s : Int) (l : List S137) (hx : l.length ≤ 9223372036854775807) : (PhasesP s l → Ev (fun k => impl_Climbs.f k s l) (hts s l, true)) ∧ (¬ PhasesP s l → Ev (fun k => impl_Climbs.f k s l) ([], false)) := by
  have bad : Ev (fun k => impl_Climbs.j0 k s l true) ([], false) := by
    refine ev_succ ?_
    simp only [impl_Climbs.j0]
    exact ev_pos (by trivial) (Ev.now _)
  unfold impl_Climbs.f
  simp only [impl_in_eq, Option.bind_some]
  by_cases h1 : 0 ≤ s ∧ s ≤ 100000
  · simp only [decide_eq_true h1]
    by_cases h2 : (l.length : Int) > 12
    · simp only [decide_eq_true h2]
      exact ⟨fun h => by have := h.2.2; omega, fun _ => ev_pos (by trivial) bad⟩
    · simp only [decide_eq_false h2]
      obtain ⟨a, b⟩ := impl_climbs_loop l (by omega) l.length 0 s [] (by omega) (by simp)
      constructor
      · intro h
        refine ev_pos (by trivial) (ev_succ ?_)
        simp only [impl_Climbs.j0]
        refine ev_neg (by decide) ?_
        have := a (fun m _ h3 => h.1 m h3)
        simpa using this
      · intro h
        refine ev_pos (by trivial) (ev_succ ?_)
        simp only [impl_Climbs.j0]
        refine ev_neg (by decide) ?_
        exact b (fun h3 => h ⟨fun m h4 => h3 m (by omega) h4, h1, by omega⟩)
  · simp only [decide_eq_false h1]
    exact ⟨fun h => absurd h.2.1 h1, fun _ => ev_neg (by decide) bad⟩

instance (s : Int) (l : List S137) : Decidable (PhasesP s l) := by unfold PhasesP; infer_instance
theorem rdK_nat (l : List S134) (n : Nat) : rd_T134 l (n : Int) = l.getD n z134 := by
  unfold rd_T134
  rw [Int.toNat_natCast]
theorem drop_consK {l : List S134} {n : Nat} (h : n < l.length) : l.drop n = l.getD n z134 :: l.drop (n + 1) := by
  rw [List.drop_eq_getElem_cons h, List.getD_eq_getElem?_getD, List.getElem?_eq_getElem h]
  rfl
theorem spec_in_f (a b c : Int) : spec_l1In.f a b c = some (impl_Clears.in_ a b c) := by
  unfold spec_l1In.f impl_Clears.in_
  split <;> rfl
theorem spec_min_f (a b : Int) : spec_l1Min.f a b = some (mn a b) := by
  unfold spec_l1Min.f mn
  split <;> split <;> first | rfl | (congr 1; omega)
/-- How high at a tick, in Go's own numbers. -/
def high (s t : Int) : List S137 → Int
  | [] => s
  | p :: ps => high (wrap64 (s + wrap64 (p.f0 * mn t p.f1))) (wrap64 (t - mn t p.f1)) ps
theorem spec_high_loop (l : List S137) (hx : l.length ≤ 9223372036854775807) : ∀ (d n : Nat) (s t : Int), n + d = l.length → Ev (fun k => spec_l3High.l0 k s l t (n : Int)) (high s t (l.drop n)) := by
  intro d
  induction d with
  | zero =>
    intro n s t hn
    refine ev_succ ?_
    simp only [spec_l3High.l0]
    refine ev_neg (by omega) ?_
    rw [List.drop_of_length_le (by omega)]
    exact Ev.now _
  | succ d ih =>
    intro n s t hn
    refine ev_succ ?_
    simp only [spec_l3High.l0, rdP_nat, spec_min_f, Option.bind_some, w64_succ (m := l.length) (n := n) (by omega) hx]
    refine ev_pos (by omega) (ev_pos (by omega) ?_)
    rw [drop_cons (by omega)]
    exact ih (n + 1) _ _ (by omega)
theorem spec_high_ev (s t : Int) (l : List S137) (hx : l.length ≤ 9223372036854775807) : Ev (fun k => spec_l3High.f k s l t) (high s t l) := spec_high_loop l hx l.length 0 s t (by omega)
theorem impl_high_loop (l : List S137) (hx : l.length ≤ 9223372036854775807) : ∀ (d n : Nat) (s t : Int), n + d = l.length → Ev (fun k => impl_heightAt.l0 k s t l (l.length : Int) (n : Int)) (high s t (l.drop n)) := by
  intro d
  induction d with
  | zero =>
    intro n s t hn
    refine ev_succ ?_
    simp only [impl_heightAt.l0]
    refine ev_neg (by omega) ?_
    rw [List.drop_of_length_le (by omega)]
    exact Ev.now _
  | succ d ih =>
    intro n s t hn
    refine ev_succ ?_
    simp only [impl_heightAt.l0, rdP_nat, w64_succ (m := l.length) (n := n) (by omega) hx]
    refine ev_pos (by omega) (ev_pos (by omega) (ev_pos (by omega) ?_))
    rw [drop_cons (by omega)]
    exact ih (n + 1) _ _ (by omega)
theorem impl_high_ev (s t : Int) (l : List S137) (hx : l.length ≤ 9223372036854775807) : Ev (fun k => impl_heightAt.f k s l t) (high s t l) := impl_high_loop l hx l.length 0 s t (by omega)
/-- The first peak that is not cleared, from n on. -/
def firstLow (s : Int) (q : List S137) (m : Int) : List S134 → Nat → Int
  | [], _ => -1
  | p :: ps, n => if wrap64 (high s p.f0 q - p.f1) < m then (n : Int) else firstLow s q m ps (n + 1)
/-- The first peak that is not right, from n on. -/
def badAt : List S134 → Nat → Int
  | [], _ => -1
  | p :: ps, n => if impl_Clears.bad p.f0 p.f1 = true then (n : Int) else badAt ps (n + 1)
def clearsV (s : Int) (q : List S137) (l : List S134) (m : Int) : Int × Bool := if impl_Clears.go (decide (PhasesP s q)) (badAt l 0) l.length m = true then (firstLow s q m l 0, true) else (-2, false)
theorem impl_bad_loop (l : List S134) (hx : l.length ≤ 9223372036854775807) : ∀ (d n : Nat), n + d = l.length → Ev (fun k => impl_Clears.l0 k l (n : Int)) (badAt (l.drop n) n) := by
  intro d
  induction d with
  | zero =>
    intro n hn
    refine ev_succ ?_
    simp only [impl_Clears.l0]
    refine ev_neg (by omega) ?_
    rw [List.drop_of_length_le (by omega)]
    exact Ev.now _
  | succ d ih =>
    intro n hn
    refine ev_succ ?_
    simp only [impl_Clears.l0, rdK_nat, w64_succ (m := l.length) (n := n) (by omega) hx]
    refine ev_pos (by omega) (ev_pos (by omega) ?_)
    rw [drop_consK (by omega)]
    by_cases h : impl_Clears.bad (l.getD n z134).f0 (l.getD n z134).f1 = true
    · simp only [badAt, if_pos h]
      exact Ev.now _
    · simp only [badAt, if_neg h]
      exact ih (n + 1) (by omega)
theorem impl_first_loop (s : Int) (q : List S137) (m : Int) (hq : q.length ≤ 9223372036854775807) (l : List S134) (hx : l.length ≤ 9223372036854775807) : ∀ (d n : Nat), n + d = l.length → Ev (fun k => impl_Clears.l1 k s q m l (n : Int)) (firstLow s q m (l.drop n) n) := by
  intro d
  induction d with
  | zero =>
    intro n hn
    refine ev_succ ?_
    simp only [impl_Clears.l1]
    refine ev_neg (by omega) ?_
    rw [List.drop_of_length_le (by omega)]
    exact Ev.now _
  | succ d ih =>
    intro n hn
    refine ev_succ ?_
    simp only [impl_Clears.l1, rdK_nat, w64_succ (m := l.length) (n := n) (by omega) hx]
    refine ev_pos (by omega) (ev_pos (by omega) (Ev.bind (impl_high_ev _ _ q hq) ?_))
    rw [drop_consK (by omega)]
    by_cases h : wrap64 (high s (l.getD n z134).f0 q - (l.getD n z134).f1) < m
    · simp only [firstLow, if_pos h]
      exact ev_pos (decide_eq_true h) (Ev.now _)
    · simp only [firstLow, if_neg h]
      exact ev_neg (by simpa using h) (ih (n + 1) (by omega))
theorem spec_first_loop (s : Int) (q : List S137) (m : Int) (hq : q.length ≤ 9223372036854775807) (l : List S134) (hx : l.length ≤ 9223372036854775807) : ∀ (d n : Nat), n + d = l.length → Ev (fun k => spec_Clears.l1 k s q l m (n : Int)) (firstLow s q m (l.drop n) n, true) := by
  intro d
  induction d with
  | zero =>
    intro n hn
    refine ev_succ ?_
    simp only [spec_Clears.l1]
    refine ev_neg (by omega) ?_
    rw [List.drop_of_length_le (by omega)]
    exact Ev.now _
  | succ d ih =>
    intro n hn
    refine ev_succ ?_
    simp only [spec_Clears.l1, rdK_nat, w64_succ (m := l.length) (n := n) (by omega) hx]
    refine ev_pos (by omega) (ev_pos (by omega) (Ev.bind (spec_high_ev _ _ q hq) ?_))
    rw [drop_consK (by omega)]
    by_cases h : wrap64 (high s (l.getD n z134).f0 q - (l.getD n z134).f1) < m
    · simp only [firstLow, if_pos h]
      exact Ev.now _
    · simp only [firstLow, if_neg h]
      exact ih (n + 1) (by omega)
theorem spec_bad_loop (s : Int) (q : List S137) (m : Int) (hq : q.length ≤ 9223372036854775807) (l : List S134) (hx : l.length ≤ 9223372036854775807) : ∀ (d n : Nat), n + d = l.length → Ev (fun k => spec_Clears.l0 k s q l m (n : Int)) (if 0 ≤ badAt (l.drop n) n then (-2, false) else (firstLow s q m l 0, true)) := by
  intro d
  induction d with
  | zero =>
    intro n hn
    refine ev_succ ?_
    simp only [spec_Clears.l0]
    refine ev_neg (by omega) ?_
    rw [List.drop_of_length_le (by omega), if_neg (by simp [badAt])]
    exact spec_first_loop s q m hq l hx l.length 0 (by omega)
  | succ d ih =>
    intro n hn
    have e1 := w64_succ (m := l.length) (n := n) (by omega) hx
    refine ev_succ ?_
    simp only [spec_Clears.l0, rdK_nat, spec_in_f, Option.bind_some, e1]
    refine ev_pos (by omega) (ev_pos (by omega) ?_)
    rw [drop_consK (by omega)]
    have no : ∀ b, badAt (l.getD n z134 :: b) n = if impl_Clears.bad (l.getD n z134).f0 (l.getD n z134).f1 = true then (n : Int) else badAt b (n + 1) := fun b => rfl
    rw [no]
    unfold impl_Clears.bad
    cases impl_Clears.in_ (l.getD n z134).f0 0 12000
    · rw [if_pos (show ((!false || !impl_Clears.in_ (l.getD n z134).f1 0 1000000) = true) from rfl), if_pos (by omega)]
      exact ev_neg (by decide) (Ev.now _)
    · cases impl_Clears.in_ (l.getD n z134).f1 0 1000000
      · rw [if_pos (show ((!true || !false) = true) from rfl), if_pos (by omega)]
        exact ev_pos rfl (ev_neg (by decide) (Ev.now _))
      · rw [if_neg (show ¬ ((!true || !true) = true) by decide)]
        exact ev_pos rfl (ev_pos rfl (ih (n + 1) (by omega)))
theorem impl_clears_ev (s : Int) (q : List S137) (l : List S134) (m : Int) (hq : q.length ≤ 9223372036854775807) (hl : l.length ≤ 9223372036854775807) : Ev (fun k => impl_Clears.f k s q l m) (clearsV s q l m) := by
  obtain ⟨a, b⟩ := impl_climbs_ev s q hq
  unfold impl_Clears.f clearsV
  have hb : Ev (fun k => impl_Clears.l0 k l 0) (badAt l 0) := impl_bad_loop l hl l.length 0 (by omega)
  refine Ev.bind hb ?_
  by_cases h : PhasesP s q
  · refine Ev.bind (a h) ?_
    simp only [decide_eq_true h]
    by_cases g : impl_Clears.go true (badAt l 0) l.length m = true
    · rw [if_pos g]
      have hf : Ev (fun k => impl_Clears.l1 k s q m l 0) (firstLow s q m l 0) := impl_first_loop s q m hq l hl l.length 0 (by omega)
      exact ev_pos g (Ev.bind hf (Ev.now _))
    · rw [if_neg g]
      exact ev_neg g (Ev.now _)
  · refine Ev.bind (b h) ?_
    simp only [decide_eq_false h]
    rw [if_neg (by simp [impl_Clears.go])]
    exact ev_neg (by simp [impl_Clears.go]) (Ev.now _)
theorem spec_clears_ev (s : Int) (q : List S137) (l : List S134) (m : Int) (hq : q.length ≤ 9223372036854775807) (hl : l.length ≤ 9223372036854775807) : Ev (fun k => spec_Clears.f k s q l m) (clearsV s q l m) := by
  obtain ⟨b, hb, ib⟩ := spec_phases_ev s q hq
  have bad : Ev (fun k => spec_Clears.j0 k s q l m true) (-2, false) := by
    refine ev_succ ?_
    simp only [spec_Clears.j0]
    exact ev_pos (by trivial) (Ev.now _)
  unfold spec_Clears.f clearsV
  simp only [spec_in_f, Option.bind_some]
  refine Ev.bind hb ?_
  by_cases h : PhasesP s q
  · obtain rfl : b = true := ib.2 h
    simp only [decide_eq_true h]
    refine ev_pos (by trivial) ?_
    by_cases h2 : (l.length : Int) > 20
    · rw [if_neg (by simp [impl_Clears.go]; omega)]
      exact ev_pos h2 bad
    refine ev_neg h2 ?_
    have d2 : decide ((20 : Int) < (l.length : Int)) = false := decide_eq_false h2
    unfold impl_Clears.go
    rw [d2]
    cases impl_Clears.in_ m 0 1000
    · rw [if_neg (by simp)]
      exact bad
    · refine ev_succ ?_
      simp only [spec_Clears.j0]
      refine ev_neg (by decide) ?_
      have k := spec_bad_loop s q m hq l hl l.length 0 (by omega)
      rw [List.drop_zero] at k
      by_cases g : 0 ≤ badAt l 0
      · rw [if_pos g] at k
        rw [if_neg (by simp [g])]
        exact k
      · rw [if_neg g] at k
        rw [if_pos (by simpa using g)]
        exact k
  · obtain rfl : b = false := by cases b with | true => exact absurd (ib.1 rfl) h | false => rfl
    simp only [decide_eq_false h]
    rw [if_neg (by simp [impl_Clears.go])]
    exact ev_neg (by decide) bad

theorem spec_climbs_loop (l : List S137) (hl : l.length ≤ 12) : ∀ (d n : Nat) (s : Int) (xs : List Int), n + d = l.length → xs.length ≤ n → Ev (fun k => spec_Climbs.l0 k s l xs (n : Int)) (xs ++ hts s (l.drop n), true) := by
  intro d
  induction d with
  | zero =>
    intro n s xs hn hx
    refine ev_succ ?_
    simp only [spec_Climbs.l0]
    refine ev_neg (by omega) ?_
    rw [List.drop_of_length_le (by omega)]
    simp only [hts, List.append_nil]
    exact Ev.now _
  | succ d ih =>
    intro n s xs hn hx
    refine ev_succ ?_
    simp only [spec_Climbs.l0, rdP_nat]
    refine ev_pos (by omega) (ev_pos (by omega) (ev_pos (by omega) ?_))
    rw [w64_succ (m := 12) (n := n) (by omega) (by omega), drop_cons (by omega)]
    simp only [hts]
    have := ih (n + 1) (wrap64 (s + wrap64 ((l.getD n z137).f0 * (l.getD n z137).f1))) (xs ++ [wrap64 (s + wrap64 ((l.getD n z137).f0 * (l.getD n z137).f1))]) (by omega) (by simp; omega)
    simpa using this
theorem spec_climbs_ev (s : Int) (l : List S137) (hx : l.length ≤ 9223372036854775807) : (PhasesP s l → Ev (fun k => spec_Climbs.f k s l) (hts s l, true)) ∧ (¬ PhasesP s l → Ev (fun k => spec_Climbs.f k s l) ([], false)) := by
  obtain ⟨b, hb, ib⟩ := spec_phases_ev s l hx
  unfold spec_Climbs.f
  simp only [Option.bind_some]
  constructor
  · intro h
    obtain rfl : b = true := ib.2 h
    refine Ev.bind hb (ev_pos rfl ?_)
    have := spec_climbs_loop l h.2.2 l.length 0 s [] (by omega) (by simp)
    simpa using this
  · intro h
    obtain rfl : b = false := by cases b with | true => exact absurd (ib.1 rfl) h | false => rfl
    exact Ev.bind hb (ev_neg (by decide) (Ev.now _))

theorem big_ev {l : List Int} (h : l.length ≤ 1048576) : laws_big.f l = some false := by
  unfold laws_big.f
  rw [decide_eq_false (by omega)]
theorem big_big {l : List Int} (h : ¬ l.length ≤ 1048576) : laws_big.f l = some true := by
  unfold laws_big.f
  rw [decide_eq_true (by omega)]

theorem wrap_i64_eq (n : Int) : IntKind.i64.wrap n = wrap64 n := by
  rw [IntKind.wrap_i64, wrap64]
theorem and_255 (x : Int) : 0 ≤ Go.bits .and .i64 x 255 ∧ Go.bits .and .i64 x 255 ≤ 255 := by
  have h : (BitVec.ofInt 64 x &&& BitVec.ofInt 64 255).toNat ≤ 255 := by
    rw [BitVec.toNat_and]
    exact Nat.le_trans Nat.and_le_right (by decide)
  show 0 ≤ IntKind.i64.wrap ((BitVec.ofInt 64 x &&& BitVec.ofInt 64 255).toNat : Int) ∧ IntKind.i64.wrap ((BitVec.ofInt 64 x &&& BitVec.ofInt 64 255).toNat : Int) ≤ 255
  generalize (BitVec.ofInt 64 x &&& BitVec.ofInt 64 255).toNat = m at h
  rw [wrap_i64_eq, w64 (by omega) (by omega)]
  omega
theorem new_loop (l : List Int) (hl : l.length ≤ 1048576) : ∀ (d n : Nat) (s : Int), n + d = l.length → ∃ s', Ev (fun k => spec_l1New.l0 k l s (n : Int)) (l, 0, s') := by
  intro d
  induction d with
  | zero =>
    intro n s hn
    refine ⟨s, ev_succ ?_⟩
    simp only [spec_l1New.l0]
    exact ev_neg (by omega) (Ev.now _)
  | succ d ih =>
    intro n s hn
    by_cases h : (n : Int) < 4000
    · obtain ⟨s', e⟩ := ih (n + 1) (Go.bits .and .i64 (wrap64 ((wrap64 ((wrap64 (s * 131)) + (wrap64 (rd l (n : Int))))) + 7)) 1073741823) (by omega)
      refine ⟨s', ev_succ ?_⟩
      simp only [spec_l1New.l0]
      rw [w64_succ (m := l.length) (n := n) (by omega) (by omega)]
      exact ev_pos (by omega) (ev_pos h (ev_pos (by omega) e))
    · refine ⟨s, ev_succ ?_⟩
      simp only [spec_l1New.l0]
      exact ev_pos (by omega) (ev_neg h (Ev.now _))
theorem new_ev (l : List Int) (hl : l.length ≤ 1048576) : ∃ s, Ev (fun k => spec_l1New.f k l) (l, 0, s) := by
  unfold spec_l1New.f
  exact new_loop l hl l.length 0 _ (by omega)
def At_ (l : List Int) (pos : Int) : Prop := 0 ≤ pos ∧ pos ≤ l.length
theorem byte_eq {l : List Int} (hl : l.length ≤ 1048576) {pos : Int} (hp : At_ l pos) (s : Int) : ∃ b pos' s', spec_l1Byte.f l pos s = some (b, pos', s') ∧ 0 ≤ b ∧ b ≤ 255 ∧ At_ l pos' := by
  obtain ⟨h0, h1⟩ := hp
  unfold spec_l1Byte.f
  by_cases h : pos < (l.length : Int)
  · rw [if_pos h, if_pos h0]
    refine ⟨_, _, _, rfl, (and_255 _).1, (and_255 _).2, ?_⟩
    rw [w64 (by omega) (by omega)]
    exact ⟨by omega, by omega⟩
  · rw [if_neg h]
    exact ⟨_, _, _, rfl, (and_255 _).1, (and_255 _).2, h0, h1⟩
theorem tmod_bd {x a : Int} (h0 : 0 ≤ x) (ha : 1 ≤ a) : 0 ≤ Int.tmod x a ∧ Int.tmod x a < a := by
  rw [Int.tmod_eq_emod_of_nonneg h0]
  exact ⟨Int.emod_nonneg _ (by omega), Int.emod_lt_of_pos _ (by omega)⟩
theorem below_eq {l : List Int} (hl : l.length ≤ 1048576) {pos : Int} (hp : At_ l pos) (s : Int) {a : Int} (ha : 1 ≤ a) : ∃ v pos' s', spec_l1Below.f l pos s a = some (v, pos', s') ∧ 0 ≤ v ∧ v < a ∧ At_ l pos' := by
  unfold spec_l1Below.f
  rw [if_neg (by omega)]
  obtain ⟨b0, p0, s0, e0, l0, u0, q0⟩ := byte_eq hl hp s
  obtain ⟨b1, p1, s1, e1, l1, u1, q1⟩ := byte_eq hl q0 s0
  obtain ⟨b2, p2, s2, e2, l2, u2, q2⟩ := byte_eq hl q1 s1
  obtain ⟨b3, p3, s3, e3, l3, u3, q3⟩ := byte_eq hl q2 s2
  by_cases h : a ≤ 256
  · rw [if_pos h, e0]
    simp only [Option.bind_some]
    rw [if_neg (by omega)]
    obtain ⟨t0, t1⟩ := tmod_bd l0 ha
    exact ⟨_, _, _, rfl, t0, t1, q0⟩
  · rw [if_neg h, e0]
    simp only [Option.bind_some, e1, e2, e3]
    rw [if_neg (by omega)]
    have w0 : wrap64 (b0 * 16777216) = b0 * 16777216 := w64 (by omega) (by omega)
    have w1 : wrap64 (b1 * 65536) = b1 * 65536 := w64 (by omega) (by omega)
    have w2 : wrap64 (b2 * 256) = b2 * 256 := w64 (by omega) (by omega)
    have w3 : wrap64 (b0 * 16777216 + b1 * 65536) = b0 * 16777216 + b1 * 65536 := w64 (by omega) (by omega)
    have w4 : wrap64 (b0 * 16777216 + b1 * 65536 + b2 * 256) = b0 * 16777216 + b1 * 65536 + b2 * 256 := w64 (by omega) (by omega)
    have w5 : wrap64 (b0 * 16777216 + b1 * 65536 + b2 * 256 + b3) = b0 * 16777216 + b1 * 65536 + b2 * 256 + b3 := w64 (by omega) (by omega)
    rw [w0, w1, w2, w3, w4, w5]
    obtain ⟨t0, t1⟩ := tmod_bd (x := b0 * 16777216 + b1 * 65536 + b2 * 256 + b3) (by omega) ha
    exact ⟨_, _, _, rfl, t0, t1, q3⟩

theorem pick_eq {l : List Int} (hl : l.length ≤ 1048576) {pos : Int} (hp : At_ l pos) (s : Int) (q : List Int) (h1 : 1 ≤ q.length) : ∃ v pos' s', spec_l1PickInt.f l pos s q = some (v, pos', s') ∧ At_ l pos' := by
  obtain ⟨v, p', s', e, v0, v1, q1⟩ := below_eq hl hp s (a := (q.length : Int)) (by omega)
  unfold spec_l1PickInt.f
  rw [e]
  simp only [Option.bind_some]
  rw [if_pos v0, if_pos v1]
  exact ⟨_, _, _, rfl, q1⟩
theorem once_eq {l : List Int} (hl : l.length ≤ 1048576) {pos : Int} (hp : At_ l pos) (s : Int) {a : Int} (ha : 1 ≤ a) : ∃ b pos' s', spec_l1Once.f l pos s a = some (b, pos', s') ∧ At_ l pos' := by
  obtain ⟨v, p', s', e, v0, v1, q1⟩ := below_eq hl hp s ha
  unfold spec_l1Once.f
  rw [e]
  simp only [Option.bind_some]
  exact ⟨_, _, _, rfl, q1⟩

theorem max_f (a b : Int) : ∃ v, spec_l1Max.f a b = some v := by
  unfold spec_l1Max.f
  split
  · exact ⟨_, rfl⟩
  · exact ⟨_, rfl⟩
theorem small_lt {n : Nat} (h : n < 1000) : n < 8796093022208 := Nat.lt_trans h (by decide)
theorem small_lt2 {n : Nat} (h : n < 1000) : n < 17592186044416 := Nat.lt_trans h (by decide)
theorem ph_end {l : List Int} (hl : l.length ≤ 1048576) {pos : Int} (hp : At_ l pos) (s : Int) (Q : List S137) : ∃ (b p' s' : Int), Ev (fun k => spec_l3DrawPhases.j2 k Q l pos s) (b, Q, p', s') ∧ At_ l p' := by
  obtain ⟨a, p1, s1, e1, _, _, q1⟩ := below_eq hl hp s (a := 200) (by omega)
  obtain ⟨b, p2, s2, e2, q2⟩ := once_eq hl q1 s1 (a := 30) (by omega)
  cases b with
  | false =>
    refine ⟨a, p2, s2, ev_succ ?_, q2⟩
    simp only [spec_l3DrawPhases.j2, e1, e2, Option.bind_some]
    exact ev_neg (by decide) (Ev.now _)
  | true =>
    obtain ⟨c, p3, s3, e3, q3⟩ := pick_eq hl q2 s2 [-1, 100000, 100001] (by decide)
    refine ⟨c, p3, s3, ev_succ ?_, q3⟩
    simp only [spec_l3DrawPhases.j2, e1, e2, e3, Option.bind_some]
    exact ev_pos (by trivial) (Ev.now _)
theorem ph_many {l : List Int} (hl : l.length ≤ 1048576) {pos : Int} (hp : At_ l pos) (s : Int) : ∀ (d : Nat) (Q : List S137), Q.length + d ≤ 20 → ∃ (b : Int) (R : List S137) (p' s' : Int), Ev (fun k => spec_l3DrawPhases.l1 k Q (d : Int) l pos s) (b, R, p', s') ∧ At_ l p' ∧ R.length ≤ 20 := by
  intro d
  induction d with
  | zero =>
    intro Q hQ
    obtain ⟨b, p', s', h, q⟩ := ph_end hl hp s Q
    refine ⟨b, Q, p', s', ev_succ ?_, q, by omega⟩
    simp only [spec_l3DrawPhases.l1]
    exact ev_neg (by omega) h
  | succ d ih =>
    intro Q hQ
    obtain ⟨b, R, p', s', h, q, r⟩ := ih (Q ++ [(⟨0, ((d + 1 : Nat) : Int)⟩ : S137)]) (by simp; omega)
    have w : wrap64 (((d + 1 : Nat) : Int) - 1) = (d : Int) := by rw [w64 (by omega) (by omega)]; omega
    refine ⟨b, R, p', s', ev_succ ?_, q, r⟩
    simp only [spec_l3DrawPhases.l1, w]
    exact ev_pos (by omega) (ev_pos (small_lt (by omega)) h)
theorem ph_loop {l : List Int} (hl : l.length ≤ 1048576) : ∀ (d : Nat) (Q : List S137) (pos s : Int), At_ l pos → Q.length + d ≤ 10 → ∃ (b : Int) (R : List S137) (p' s' : Int), Ev (fun k => spec_l3DrawPhases.l0 k Q (d : Int) l pos s) (b, R, p', s') ∧ At_ l p' ∧ R.length ≤ 20 := by
  intro d
  induction d with
  | zero =>
    intro Q pos s hp hQ
    obtain ⟨v, p1, s1, e1, v0, v1, q1⟩ := below_eq hl hp s (a := 30) (by omega)
    by_cases c0 : v = 0
    · obtain ⟨x, p2, s2, e2, q2⟩ := pick_eq hl q1 s1 [-101, -100, 100, 101] (by decide)
      obtain ⟨y, p3, s3, e3, q3⟩ := pick_eq hl q2 s2 [0, 1, 1000, 1001] (by decide)
      obtain ⟨b, p', s', h, q⟩ := ph_end hl q3 s3 (Q ++ [(⟨x, y⟩ : S137)])
      refine ⟨b, Q ++ [(⟨x, y⟩ : S137)], p', s', ev_succ ?_, q, by simp; omega⟩
      simp only [spec_l3DrawPhases.l0, e1, e2, e3, Option.bind_some]
      exact ev_neg (by omega) (ev_pos c0 (ev_pos (small_lt (by omega)) h))
    by_cases c1 : v = 1
    · obtain ⟨x, p2, s2, e2, x0, x1, q2⟩ := below_eq hl q1 s1 (a := 2) (by omega)
      have w : wrap64 (12 + x) = ((12 + x).toNat : Int) := by rw [w64 (by omega) (by omega)]; omega
      obtain ⟨b, R, p', s', h, q, r⟩ := ph_many hl q2 s2 (12 + x).toNat [] (by simp; omega)
      refine ⟨b, R, p', s', ev_succ ?_, q, r⟩
      simp only [spec_l3DrawPhases.l0, e1, e2, w, Option.bind_some]
      exact ev_neg (by omega) (ev_neg c0 (ev_pos c1 h))
    obtain ⟨b, p', s', h, q⟩ := ph_end hl q1 s1 Q
    refine ⟨b, Q, p', s', ev_succ ?_, q, by omega⟩
    simp only [spec_l3DrawPhases.l0, e1, Option.bind_some]
    exact ev_neg (by omega) (ev_neg c0 (ev_neg c1 h))
  | succ d ih =>
    intro Q pos s hp hQ
    obtain ⟨x, p1, s1, e1, _, _, q1⟩ := below_eq hl hp s (a := 41) (by omega)
    obtain ⟨y, p2, s2, e2, _, _, q2⟩ := below_eq hl q1 s1 (a := 30) (by omega)
    have w : wrap64 (((d + 1 : Nat) : Int) - 1) = (d : Int) := by rw [w64 (by omega) (by omega)]; omega
    obtain ⟨b, R, p', s', h, q, r⟩ := ih (Q ++ [(⟨wrap64 (x - 15), wrap64 (1 + y)⟩ : S137)]) p2 s2 q2 (by simp; omega)
    refine ⟨b, R, p', s', ev_succ ?_, q, r⟩
    simp only [spec_l3DrawPhases.l0, e1, e2, w, Option.bind_some]
    exact ev_pos (by omega) (ev_pos (small_lt (by omega)) h)
theorem pk_loop {l : List Int} (hl : l.length ≤ 1048576) (b : Int) (R : List S137) (hR : R.length ≤ 20) : ∀ (d : Nat) (L : List S134) (pos s : Int), At_ l pos → L.length + d ≤ 10 → ∃ (T : List S134) (m : Int), Ev (fun k => spec_DrawClears.l0 k b R L (d : Int) l pos s) (b, R, T, m) ∧ T.length ≤ 30 := by
  intro d
  induction d with
  | zero =>
    intro L pos s hp hL
    obtain ⟨v, p1, s1, e1, v0, v1, q1⟩ := below_eq hl hp s (a := 30) (by omega)
    by_cases c0 : v = 0
    · obtain ⟨x, p2, s2, e2, q2⟩ := pick_eq hl q1 s1 [-1, 12000, 12001] (by decide)
      obtain ⟨y, p3, s3, e3, q3⟩ := pick_eq hl q2 s2 [0, -1, 1000000, 1000001] (by decide)
      obtain ⟨m, p4, s4, e4, q4⟩ := pick_eq hl q3 s3 [0, 5, 10, 1000, 1001, -1, 20] (by decide)
      refine ⟨L ++ [(⟨x, y⟩ : S134)], m, ev_succ ?_, by simp; omega⟩
      simp only [spec_DrawClears.l0, e1, e2, e3, e4, Option.bind_some]
      exact ev_neg (by omega) (ev_pos c0 (ev_pos (small_lt (by omega)) (Ev.now _)))
    by_cases c1 : v = 1
    · obtain ⟨x, p2, s2, e2, x0, x1, q2⟩ := below_eq hl q1 s1 (a := 2) (by omega)
      obtain ⟨m, p4, s4, e4, q4⟩ := pick_eq hl q2 s2 [0, 5, 10, 1000, 1001, -1, 20] (by decide)
      have w : wrap64 (20 + x) = 20 + x := w64 (by omega) (by omega)
      refine ⟨List.replicate (20 + x).toNat z134, m, ev_succ ?_, by simp; omega⟩
      simp only [spec_DrawClears.l0, e1, e2, e4, w, Option.bind_some]
      exact ev_neg (by omega) (ev_neg c0 (ev_pos c1 (ev_pos (by omega) (ev_pos (by have := small_lt2 (n := (20 + x).toNat) (by omega); omega) (Ev.now _)))))
    · obtain ⟨m, p4, s4, e4, q4⟩ := pick_eq hl q1 s1 [0, 5, 10, 1000, 1001, -1, 20] (by decide)
      refine ⟨L, m, ev_succ ?_, by omega⟩
      simp only [spec_DrawClears.l0, e1, e4, Option.bind_some]
      exact ev_neg (by omega) (ev_neg c0 (ev_neg c1 (Ev.now _)))
  | succ d ih =>
    intro L pos s hp hL
    obtain ⟨x, p1, s1, e1, _, _, q1⟩ := below_eq hl hp s (a := 120) (by omega)
    obtain ⟨y, p2, s2, e2, _, _, q2⟩ := below_eq hl q1 s1 (a := 40) (by omega)
    obtain ⟨z, e3⟩ := max_f 0 (wrap64 ((wrap64 (high b x R - y)) + 5))
    have w : wrap64 (((d + 1 : Nat) : Int) - 1) = (d : Int) := by rw [w64 (by omega) (by omega)]; omega
    obtain ⟨T, m, h, r⟩ := ih (L ++ [(⟨x, z⟩ : S134)]) p2 s2 q2 (by simp; omega)
    refine ⟨T, m, ev_succ ?_, r⟩
    simp only [spec_DrawClears.l0, e1, w, Option.bind_some]
    refine ev_pos (by omega) (Ev.bind (spec_high_ev b x R (by omega)) ?_)
    simp only [e2, e3, Option.bind_some]
    exact ev_pos (small_lt (by omega)) h
theorem clears_draw (l : List Int) (hl : l.length ≤ 1048576) : ∃ (b : Int) (R : List S137) (T : List S134) (m : Int), Ev (fun k => spec_DrawClears.f k l) (b, R, T, m) ∧ R.length ≤ 20 ∧ T.length ≤ 30 := by
  obtain ⟨s0, h0⟩ := new_ev l hl
  have hp : At_ l 0 := ⟨by omega, by omega⟩
  obtain ⟨x, p1, s1, e1, x0, x1, q1⟩ := below_eq hl hp s0 (a := 6) (by omega)
  obtain ⟨b, R, p2, s2, h2, q2, hR⟩ := ph_loop hl x.toNat [] p1 s1 q1 (by simp; omega)
  rw [show ((x.toNat : Nat) : Int) = x by omega] at h2
  obtain ⟨y, p3, s3, e3, y0, y1, q3⟩ := below_eq hl q2 s2 (a := 5) (by omega)
  obtain ⟨T, m, h4, hT⟩ := pk_loop hl b R hR y.toNat [] p3 s3 q3 (by simp; omega)
  rw [show ((y.toNat : Nat) : Int) = y by omega] at h4
  have hP : Ev (fun k => spec_l3DrawPhases.f k l 0 s0) (b, R, p2, s2) := by
    unfold spec_l3DrawPhases.f
    simp only [e1, Option.bind_some]
    exact h2
  refine ⟨b, R, T, m, ?_, hR, hT⟩
  unfold spec_DrawClears.f
  refine Ev.bind h0 (Ev.bind hP ?_)
  simp only [e3, Option.bind_some]
  exact h4
def Low (s : Int) (q : List S137) (m : Int) (p : S134) : Prop := wrap64 (high s p.f0 q - p.f1) < m
theorem low_none (s : Int) (q : List S137) (m : Int) : ∀ (l : List S134) (n : Nat), (∀ p ∈ l, ¬ Low s q m p) → firstLow s q m l n = -1 := by
  intro l
  induction l with
  | nil => intro n _; rfl
  | cons p ps ih =>
    intro n h
    have hp := h p (List.mem_cons_self ..)
    unfold Low at hp
    simp only [firstLow, if_neg hp]
    exact ih (n + 1) (fun x hx => h x (List.mem_cons_of_mem _ hx))
theorem low_cases (s : Int) (q : List S137) (m : Int) : ∀ (l : List S134) (n : Nat), (firstLow s q m l n = -1 ∧ ∀ p ∈ l, ¬ Low s q m p) ∨ ∃ i, i < l.length ∧ firstLow s q m l n = ((n + i : Nat) : Int) ∧ Low s q m (l.getD i z134) ∧ ∀ p ∈ l.take i, ¬ Low s q m p := by
  intro l
  induction l with
  | nil => intro n; exact Or.inl ⟨rfl, fun p h => by cases h⟩
  | cons p ps ih =>
    intro n
    by_cases h : wrap64 (high s p.f0 q - p.f1) < m
    · refine Or.inr ⟨0, by simp, ?_, h, fun x hx => by simp at hx⟩
      simp only [firstLow, if_pos h]
      rfl
    · rcases ih (n + 1) with ⟨a, b⟩ | ⟨i, a, b, c, d⟩
      · refine Or.inl ⟨?_, fun x hx => ?_⟩
        · simp only [firstLow, if_neg h]
          exact a
        · rcases List.mem_cons.mp hx with rfl | hx
          · exact h
          · exact b x hx
      · refine Or.inr ⟨i + 1, by simp; omega, ?_, by simpa using c, fun x hx => ?_⟩
        · simp only [firstLow, if_neg h]
          rw [b, show n + 1 + i = n + (i + 1) by omega]
        · rw [List.take_succ_cons] at hx
          rcases List.mem_cons.mp hx with rfl | hx
          · exact h
          · exact d x hx
theorem bad_none : ∀ (l : List S134) (n : Nat), (¬ 0 ≤ badAt l n) ↔ ∀ p ∈ l, ¬ impl_Clears.bad p.f0 p.f1 = true := by
  intro l
  induction l with
  | nil => intro n; simp [badAt]
  | cons p ps ih =>
    intro n
    by_cases h : impl_Clears.bad p.f0 p.f1 = true
    · simp only [badAt, if_pos h]
      exact ⟨fun k => absurd (Int.natCast_nonneg n) k, fun k => absurd h (k p (List.mem_cons_self ..))⟩
    · simp only [badAt, if_neg h]
      rw [ih (n + 1)]
      constructor
      · intro k x hx
        rcases List.mem_cons.mp hx with rfl | hx
        · exact h
        · exact k x hx
      · intro k x hx
        exact k x (List.mem_cons_of_mem _ hx)
theorem in_iff (a b c : Int) : impl_Clears.in_ a b c = true ↔ b ≤ a ∧ a ≤ c := by
  unfold impl_Clears.in_
  split
  · rw [decide_eq_true_iff]
    constructor
    · intro h; exact ⟨by omega, h⟩
    · intro h; exact h.2
  · constructor
    · intro h; cases h
    · intro h; omega
theorem go_iff (P : Prop) [Decidable P] (i : Int) (n : Nat) (m : Int) : impl_Clears.go (decide P) i n m = true ↔ P ∧ ¬ 0 ≤ i ∧ n ≤ 20 ∧ 0 ≤ m ∧ m ≤ 1000 := by
  unfold impl_Clears.go
  rw [Bool.and_eq_true, Bool.and_eq_true, Bool.and_eq_true, in_iff, decide_eq_true_iff, Bool.not_eq_true', Bool.not_eq_true', decide_eq_false_iff_not, decide_eq_false_iff_not]
  constructor
  · rintro ⟨⟨⟨h1, h2⟩, h3⟩, h4⟩
    exact ⟨h1, h2, by omega, h4⟩
  · rintro ⟨h1, h2, h3, h4⟩
    exact ⟨⟨⟨h1, h2⟩, by omega⟩, h4⟩
theorem take_drop_one (l : List S134) (i : Nat) (h : i < l.length) : (l.take (i + 1)).drop i = [l.getD i z134] := by
  rw [List.drop_take, show i + 1 - i = 1 by omega, drop_consK h, List.take_succ_cons]
  rfl
theorem clears_law (s : Int) (q : List S137) (l : List S134) (m : Int) (hq : q.length ≤ 1000) (hl : l.length ≤ 1000) : Ev (fun k => laws_FnClears.j0 k s q l m (clearsV s q l m).1 (clearsV s q l m).2 (clearsV s q l m).1 false) true := by
  have ej : ∀ b : Bool, Ev (fun k => laws_FnClears.j3 k b) b := by
    intro b
    refine ev_succ ?_
    simp only [laws_FnClears.j3]
    exact Ev.now _
  have same : ∀ x : Int, Ev (fun k => laws_FnClears.j1 k s q l m x x true) true := by
    intro x
    refine ev_succ ?_
    simp only [laws_FnClears.j1, beq_self_eq_true]
    exact ev_pos (by trivial) (Ev.now _)
  refine ev_succ ?_
  simp only [laws_FnClears.j0]
  refine ev_neg (by decide) ?_
  by_cases g : impl_Clears.go (decide (PhasesP s q)) (badAt l 0) l.length m = true
  rotate_left
  · have e : clearsV s q l m = (-2, false) := by unfold clearsV; rw [if_neg g]
    rw [e]
    exact ev_neg (by decide) (same _)
  have e : clearsV s q l m = (firstLow s q m l 0, true) := by unfold clearsV; rw [if_pos g]
  rw [e]
  refine ev_pos (by trivial) ?_
  by_cases m0 : m = 0
  · rw [beq_iff_eq.mpr m0]
    exact same _
  rw [beq_eq_false_iff_ne.mpr m0]
  obtain ⟨hP, hb, hn, hm0, hm1⟩ := (go_iff _ _ _ _).mp g
  have hbad := (bad_none l 0).mp hb
  have w : wrap64 (m - 1) = m - 1 := w64 (by omega) (by omega)
  have less : clearsV s q l (m - 1) = (firstLow s q (m - 1) l 0, true) := by
    unfold clearsV
    rw [if_pos ((go_iff _ _ _ _).mpr ⟨hP, hb, hn, by omega, by omega⟩)]
  have hless := impl_clears_ev s q l (m - 1) (by omega) (by omega)
  rw [less] at hless
  have weak : ∀ p, Low s q (m - 1) p → Low s q m p := by
    intro p h
    unfold Low at h ⊢
    omega
  have he : Ev (fun k => laws_FnClears.j1 k s q l m (firstLow s q m l 0) (firstLow s q m l 0) false) true := by
    refine ev_succ ?_
    simp only [laws_FnClears.j1, w]
    refine ev_neg (by decide) (Ev.bind hless ?_)
    rcases low_cases s q m l 0 with ⟨a, b⟩ | ⟨i, hi, a, b, c⟩
    · have k := low_none s q (m - 1) l 0 (fun p hp h => b p hp (weak p h))
      refine ev_pos a ?_
      rw [k]
      exact Ev.now _
    · rw [Nat.zero_add] at a
      rw [a]
      have d1 : decide ((i : Int) ≥ (l.length : Int)) = false := decide_eq_false (by omega)
      refine ev_neg (by omega) (ev_neg (by omega) ?_)
      rw [d1]
      have hfirst : Ev (fun k => impl_Clears.f k s q (l.take i) m) (-1, true) := by
        have h := impl_clears_ev s q (l.take i) m (by omega) (by rw [List.length_take]; omega)
        have v : clearsV s q (l.take i) m = (-1, true) := by
          unfold clearsV
          rw [if_pos ((go_iff _ _ _ _).mpr ⟨hP, (bad_none _ 0).mpr (fun p hp => hbad p (List.mem_of_mem_take hp)), by rw [List.length_take]; omega, hm0, hm1⟩), low_none s q m _ 0 c]
        rwa [v] at h
      have hone : Ev (fun k => impl_Clears.f k s q [l.getD i z134] m) (0, true) := by
        have h := impl_clears_ev s q [l.getD i z134] m (by omega) (by simp)
        have mem : l.getD i z134 ∈ l := by
          rw [List.getD_eq_getElem?_getD, List.getElem?_eq_getElem hi]
          exact List.getElem_mem hi
        have v : clearsV s q [l.getD i z134] m = (0, true) := by
          unfold clearsV
          rw [if_pos ((go_iff _ _ _ _).mpr ⟨hP, (bad_none _ 0).mpr (fun p hp => by rw [List.mem_singleton.mp hp]; exact hbad _ mem), by simp, hm0, hm1⟩)]
          have b' := b
          unfold Low at b'
          simp only [firstLow, if_pos b']
          rfl
        rwa [v] at h
      have wi : wrap64 ((i : Int) + 1) = ((i + 1 : Nat) : Int) := w64_succ (m := l.length) hi (by omega)
      refine ev_succ ?_
      simp only [laws_FnClears.j2, wi, Int.toNat_natCast, take_drop_one l i hi]
      refine ev_neg (by decide) (ev_pos (by omega) (ev_pos (by omega) (Ev.bind hfirst (ev_pos (by omega) (ev_pos (by omega) (Ev.bind hone ?_))))))
      rcases low_cases s q (m - 1) l 0 with ⟨a', _⟩ | ⟨j, hj, a', b', _⟩
      · exact ev_pos a' (ev_pos (by trivial) (ej true))
      · rw [Nat.zero_add] at a'
        rw [a']
        have hij : i ≤ j := by
          refine Nat.le_of_not_lt (fun hlt => ?_)
          have mem : l.getD j z134 ∈ l.take i := by
            rw [List.getD_eq_getElem?_getD, List.getElem?_eq_getElem hj, List.mem_take_iff_getElem]
            exact ⟨j, by omega, rfl⟩
          exact c _ mem (weak _ b')
        exact ev_neg (by omega) (ev_pos (by omega) (ev_pos (by trivial) (ej true)))
  exact he
theorem FnClears : laws_FnClears.PureR := by
  intro l ⟨_, hu⟩
  refine Ev.rounds ?_
  unfold laws_FnClears.f
  by_cases hL : l.length ≤ 1048576
  rotate_left
  · rw [big_big hL]
    exact Ev.now _
  rw [big_ev hL]
  simp only [Option.bind_some]
  refine ev_neg (by decide) ?_
  obtain ⟨s, q, T, m, hd, hq, hT⟩ := clears_draw l hL
  refine Ev.bind hd (Ev.bind (impl_clears_ev s q T m (by omega) (by omega)) (Ev.bind (spec_clears_ev s q T m (by omega) (by omega)) (ev_neg (by simp) ?_)))
  have fin := clears_law s q T m (by omega) (by omega)
  obtain ⟨a1, a2⟩ := spec_climbs_ev s q (by omega)
  obtain ⟨b1, b2⟩ := impl_climbs_ev s q (by omega)
  by_cases h : PhasesP s q
  · refine Ev.bind (b1 h) (Ev.bind (a1 h) (ev_neg (by simp) (ev_pos (by trivial) ?_)))
    have e : (((hts s q).length : Int) != (q.length : Int)) = false := by rw [hts_length]; simp
    show Ev (fun k => laws_FnClears.j0 k s q T m (clearsV s q T m).1 (clearsV s q T m).2 (clearsV s q T m).1 (((hts s q).length : Int) != (q.length : Int))) true
    rw [e]
    exact fin
  · exact Ev.bind (b2 h) (Ev.bind (a2 h) (ev_neg (by decide) (ev_neg (by decide) fin)))

end Go.Proofs.Ytnphbpkpjinddaa.Pure
