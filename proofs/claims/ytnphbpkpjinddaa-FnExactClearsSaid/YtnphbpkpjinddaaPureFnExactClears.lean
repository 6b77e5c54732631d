/- Proved here: the program's and the reference's Clears are the same function of the start, the phases, the peaks and the margin; no condition. -/
import Derived.Test.YtnphbpkpjinddaaPureDefFnExactClears
namespace Go.Proofs.Ytnphbpkpjinddaa.Pure
open Go.RowKit Go.Proofs.Ytnphbpkpjinddaa.QFnExactClears Go.Proofs.YtnphbpkpjinddaaW.PrintWords Go.Proofs.YtnphbpkpjinddaaW.PrintLast Go.Proofs.YtnphbpkpjinddaaW.PrintMore
set_option linter.unusedVariables false
set_option linter.unusedSimpArgs false

theorem ev_pos {c : Prop} [Decidable c] {α : Type} {A B : Nat → Option α} {r : α} (h : c) (k : Ev A r) : Ev (fun n => if c then A n else B n) r := by
  simpa only [if_pos h] using k
theorem ev_neg {c : Prop} [Decidable c] {α : Type} {A B : Nat → Option α} {r : α} (h : ¬ c) (k : Ev B r) : Ev (fun n => if c then A n else B n) r := by
  simpa only [if_neg h] using k
theorem ev_succ {α : Type} {g : Nat → Option α} {r : α} (h : Ev (fun k => g (k + 1)) r) : Ev g r := Ev.step (fun _ => rfl) h
theorem ex_succ {α : Type} {g : Nat → Option α} (h : ∃ r, Ev (fun k => g (k + 1)) r) : ∃ r, Ev g r := by
  obtain ⟨r, h⟩ := h
  exact ⟨r, ev_succ h⟩
theorem ev_one {α : Type} {g : Nat → Option α} {r q : α} (h : Ev g r) (h' : Ev g q) : r = q := by
  obtain ⟨K, hK⟩ := h
  obtain ⟨L, hL⟩ := h'
  have a := hK (max K L) (Nat.le_max_left _ _)
  have b := hL (max K L) (Nat.le_max_right _ _)
  exact Option.some.inj (a.symm.trans b)
theorem ev_bool {α : Type} {A B : Nat → Option α} {r : α} (b : Bool) (h1 : b = true → Ev A r) (h2 : b = false → Ev B r) : Ev (fun n => if b = true then A n else B n) r := by
  cases b with
  | true => exact ev_pos (by trivial) (h1 rfl)
  | false => exact ev_neg (by decide) (h2 rfl)
theorem bool_eq_of_iff {a b : Bool} {p : Prop} (h : a = true ↔ p) (h' : b = true ↔ p) : a = b := by
  rw [Bool.eq_iff_iff]
  exact h.trans h'.symm
theorem w64 {x : Int} (h0 : -9223372036854775808 ≤ x) (h1 : x ≤ 9223372036854775807) : wrap64 x = x := by
  unfold wrap64
  omega
theorem w64_succ {n m : Nat} (h : n < m) (hm : m ≤ 9223372036854775807) : wrap64 ((n : Int) + 1) = ((n + 1 : Nat) : Int) := by
  unfold wrap64
  omega
theorem rd_nat (l : List Int) (n : Nat) : rd l (n : Int) = l.getD n 0 := by
  unfold rd
  rw [Int.toNat_natCast]
theorem take_set_succ {α : Type} (d : α) {x0 x3 : List α} {n : Nat} (h : n < x0.length) (hl : x3.length = x0.length) (ht : x3.take n = x0.take n) : (x3.set n (x0.getD n d)).take (n + 1) = x0.take (n + 1) := by
  apply List.ext_getElem?
  intro i
  simp only [List.getElem?_take, List.getElem?_set]
  by_cases hi : i < n + 1
  · rw [if_pos hi, if_pos hi]
    by_cases he : n = i
    · subst he
      rw [if_pos rfl, if_pos (by omega), List.getD_eq_getElem?_getD, List.getElem?_eq_getElem h]
      rfl
    · rw [if_neg he]
      have := congrArg (fun l => l[i]?) ht
      simpa only [List.getElem?_take, if_pos (show i < n by omega)] using this
  · rw [if_neg hi, if_neg hi]
theorem u8_bounds {l : List Int} (h : ∀ x ∈ l, 0 ≤ x ∧ x ≤ 255) (n : Nat) : 0 ≤ l.getD n 0 ∧ l.getD n 0 ≤ 255 := by
  rw [List.getD_eq_getElem?_getD]
  cases e : l[n]? with
  | none => simp
  | some x =>
    exact h x (List.mem_of_getElem? e)
theorem getD_map {α β : Type} (c : α → β) (l : List α) (n : Nat) (d : α) : (l.map c).getD n (c d) = c (l.getD n d) := by
  simp only [List.getD_eq_getElem?_getD, List.getElem?_map]
  cases l[n]? <;> rfl
/-- It ends, with true just where p holds. -/
def EvB (g : Nat → Option Bool) (p : Prop) : Prop := ∃ b, Ev g b ∧ (b = true ↔ p)
theorem EvB.iff {g : Nat → Option Bool} {p q : Prop} (h : EvB g p) (h' : p ↔ q) : EvB g q := by
  obtain ⟨b, hb, ib⟩ := h
  exact ⟨b, hb, ib.trans h'⟩
theorem EvB.dec {c : Prop} [Decidable c] : EvB (fun _ => some (decide c)) c := ⟨decide c, Ev.now _, decide_eq_true_iff⟩
theorem EvB.ite {c : Prop} [Decidable c] {A : Nat → Option Bool} {p : Prop} (h : EvB A p) : EvB (fun n => if c then A n else some false) (c ∧ p) := by
  obtain ⟨b, hb, ib⟩ := h
  by_cases hc : c
  · exact ⟨b, ev_pos hc hb, ⟨fun h => ⟨hc, ib.1 h⟩, fun h => ib.2 h.2⟩⟩
  · exact ⟨false, ev_neg hc (Ev.now _), ⟨fun h => (Bool.false_ne_true h).elim, fun h => absurd h.1 hc⟩⟩
theorem EvB.ite_not {c : Prop} [Decidable c] {A : Nat → Option Bool} {p : Prop} (h : EvB A p) : EvB (fun n => if c then some false else A n) (¬ c ∧ p) := by
  obtain ⟨b, hb, ib⟩ := h
  by_cases hc : c
  · exact ⟨false, ev_pos hc (Ev.now _), ⟨fun h => (Bool.false_ne_true h).elim, fun h => absurd hc h.1⟩⟩
  · exact ⟨b, ev_neg hc hb, ⟨fun h => ⟨hc, ib.1 h⟩, fun h => ib.2 h.2⟩⟩
theorem EvB.bind {g A : Nat → Option Bool} {p q : Prop} (h : EvB g p) (h' : EvB A q) : EvB (fun n => (g n).bind fun t => if t = true then A n else some false) (p ∧ q) := by
  obtain ⟨b, hb, ib⟩ := h
  obtain ⟨c, hc, ic⟩ := h'
  cases b with
  | true => exact ⟨c, Ev.bind hb (ev_pos rfl hc), ⟨fun h => ⟨ib.1 rfl, ic.1 h⟩, fun h => ic.2 h.2⟩⟩
  | false => exact ⟨false, Ev.bind hb (ev_neg (by decide) (Ev.now _)), ⟨fun h => (Bool.false_ne_true h).elim, fun h => absurd (ib.2 h.1) (by decide)⟩⟩
theorem EvB.last {g : Nat → Option Bool} {p : Prop} (h : EvB g p) : EvB (fun n => (g n).bind fun t => some t) p := by
  obtain ⟨b, hb, ib⟩ := h
  exact ⟨b, Ev.bind hb (Ev.now _), ib⟩
theorem EvB.same {g g' : Nat → Option Bool} {p : Prop} (h : EvB g p) (h' : EvB g' p) : ∃ b, Ev g b ∧ Ev g' b ∧ (b = true ↔ p) := by
  obtain ⟨b, hb, ib⟩ := h
  obtain ⟨c, hc, ic⟩ := h'
  obtain rfl : c = b := bool_eq_of_iff ic ib
  exact ⟨c, hb, hc, ib⟩
theorem EvB.bindE {g A B : Nat → Option Bool} {p q : Prop} (hB : Ev B false) (h : EvB g p) (h' : EvB A q) : EvB (fun n => (g n).bind fun t => if t = true then A n else B n) (p ∧ q) := by
  obtain ⟨b, hb, ib⟩ := h
  obtain ⟨c, hc, ic⟩ := h'
  cases b with
  | true => exact ⟨c, Ev.bind hb (ev_pos rfl hc), ⟨fun h => ⟨ib.1 rfl, ic.1 h⟩, fun h => ic.2 h.2⟩⟩
  | false => exact ⟨false, Ev.bind hb (ev_neg (by decide) hB), ⟨fun h => (Bool.false_ne_true h).elim, fun h => absurd (ib.2 h.1) (by decide)⟩⟩
theorem EvB.iteE {c : Prop} [Decidable c] {A B : Nat → Option Bool} {p : Prop} (hB : Ev B false) (h : EvB A p) : EvB (fun n => if c then A n else B n) (c ∧ p) := by
  obtain ⟨b, hb, ib⟩ := h
  by_cases hc : c
  · exact ⟨b, ev_pos hc hb, ⟨fun h => ⟨hc, ib.1 h⟩, fun h => ib.2 h.2⟩⟩
  · exact ⟨false, ev_neg hc hB, ⟨fun h => (Bool.false_ne_true h).elim, fun h => absurd h.1 hc⟩⟩
theorem EvB.bindN {g : Nat → Option Bool} {J : Nat → Bool → Option Bool} {p q : Prop} (hB : Ev (fun n => J n true) false) (h : EvB g p) (h' : EvB (fun n => J n false) q) : EvB (fun n => (g n).bind fun t => J n (!t)) (p ∧ q) := by
  obtain ⟨b, hb, ib⟩ := h
  obtain ⟨c, hc, ic⟩ := h'
  cases b with
  | true => exact ⟨c, Ev.bind hb hc, ⟨fun h => ⟨ib.1 rfl, ic.1 h⟩, fun h => ic.2 h.2⟩⟩
  | false => exact ⟨false, Ev.bind hb hB, ⟨fun h => (Bool.false_ne_true h).elim, fun h => absurd (ib.2 h.1) (by decide)⟩⟩
theorem EvB.succ {g : Nat → Option Bool} {p : Prop} (h : EvB (fun k => g (k + 1)) p) : EvB g p := by
  obtain ⟨b, hb, ib⟩ := h
  exact ⟨b, ev_succ hb, ib⟩
theorem EvB.true_ {p : Prop} (h : p) : EvB (fun _ => some true) p := ⟨true, Ev.now _, ⟨fun _ => h, fun _ => rfl⟩⟩
theorem EvB.false_ {p : Prop} (h : ¬ p) : EvB (fun _ => some false) p := ⟨false, Ev.now _, ⟨fun e => (Bool.false_ne_true e).elim, fun e => absurd e h⟩⟩
theorem EvB.pos {c : Prop} [Decidable c] {A B : Nat → Option Bool} {p : Prop} (hc : c) (h : EvB A p) : EvB (fun n => if c then A n else B n) p := by
  simpa only [if_pos hc] using h
theorem EvB.neg {c : Prop} [Decidable c] {A B : Nat → Option Bool} {p : Prop} (hc : ¬ c) (h : EvB B p) : EvB (fun n => if c then A n else B n) p := by
  simpa only [if_neg hc] using h

theorem spec_in_eq (a b c : Int) : spec_l1In.f a b c = some (decide (b ≤ a ∧ a ≤ c)) := by
  unfold spec_l1In.f
  split
  · congr 1
    rw [decide_eq_decide]
    omega
  · congr 1
    symm
    rw [decide_eq_false_iff_not]
    omega
theorem spec_in_evB (a b c : Int) : EvB (fun _ => spec_l1In.f a b c) (b ≤ a ∧ a ≤ c) := by
  rw [spec_in_eq]
  exact EvB.dec

theorem impl_in_eq (a b c : Int) : impl_in.f a b c = some (decide (b ≤ a ∧ a ≤ c)) := by
  unfold impl_in.f
  split
  · congr 1
    rw [decide_eq_decide]
    omega
  · congr 1
    symm
    rw [decide_eq_false_iff_not]
    omega
theorem impl_in_evB (a b c : Int) : EvB (fun _ => impl_in.f a b c) (b ≤ a ∧ a ≤ c) := by
  rw [impl_in_eq]
  exact EvB.dec

def PhOk (x : S137) : Prop := (-100 ≤ x.f0 ∧ x.f0 ≤ 100) ∧ (1 ≤ x.f1 ∧ x.f1 ≤ 1000)
instance (x : S137) : Decidable (PhOk x) := by unfold PhOk; infer_instance
def PhasesP (s : Int) (l : List S137) : Prop := (∀ n, n < l.length → PhOk (l.getD n z137)) ∧ (0 ≤ s ∧ s ≤ 100000) ∧ l.length ≤ 12
theorem rdP_nat (l : List S137) (n : Nat) : rd_T137 l (n : Int) = l.getD n z137 := by
  unfold rd_T137
  rw [Int.toNat_natCast]
/-- The heights behind the phases, in Go's own numbers. -/
def hts (s : Int) : List S137 → List Int
  | [] => []
  | p :: ps => wrap64 (s + wrap64 (p.f0 * p.f1)) :: hts (wrap64 (s + wrap64 (p.f0 * p.f1))) ps
theorem hts_length (l : List S137) : ∀ s, (hts s l).length = l.length := by
  induction l with
  | nil => intro s; rfl
  | cons p ps ih => intro s; simp [hts, ih]
theorem spec_phases_ev (s : Int) (l : List S137) (hx : l.length ≤ 9223372036854775807) : EvB (fun k => spec_l3Phases.f k s l) (PhasesP s l) := by
  have key : ∀ (d n : Nat), n + d = l.length → (∀ m, m < n → PhOk (l.getD m z137)) → EvB (fun k => spec_l3Phases.l0 k s l (n : Int)) (PhasesP s l) := by
    intro d
    induction d with
    | zero =>
      intro n hn hm
      refine EvB.succ ?_
      simp only [spec_l3Phases.l0]
      refine EvB.neg (by omega) ((EvB.bind (spec_in_evB _ _ _) EvB.dec).iff ?_)
      unfold PhasesP
      constructor
      · rintro ⟨h1, h2⟩; exact ⟨fun m h => hm m (by omega), h1, by omega⟩
      · rintro ⟨_, h1, h2⟩; exact ⟨h1, by omega⟩
    | succ d ih =>
      intro n hn hm
      refine EvB.succ ?_
      simp only [spec_l3Phases.l0, spec_in_eq, Option.bind_some, rdP_nat]
      refine EvB.pos (by omega) (EvB.pos (by omega) ?_)
      rw [w64_succ (m := l.length) (n := n) (by omega) hx]
      by_cases h1 : -100 ≤ (l.getD n z137).f0 ∧ (l.getD n z137).f0 ≤ 100
      · refine EvB.pos (by simpa using h1) ?_
        by_cases h2 : 1 ≤ (l.getD n z137).f1 ∧ (l.getD n z137).f1 ≤ 1000
        · refine EvB.pos (by simpa using h2) (ih (n + 1) (by omega) (fun m hm' => ?_))
          by_cases e : m = n
          · subst e; exact ⟨h1, h2⟩
          · exact hm m (by omega)
        · exact EvB.neg (by simpa using h2) (EvB.false_ (fun h => h2 (h.1 n (by omega)).2))
      · exact EvB.neg (by simpa using h1) (EvB.false_ (fun h => h1 (h.1 n (by omega)).1))
  unfold spec_l3Phases.f
  exact key l.length 0 (by omega) (fun m h => by omega)
theorem drop_cons {l : List S137} {n : Nat} (h : n < l.length) : l.drop n = l.getD n z137 :: l.drop (n + 1) := by
  rw [List.drop_eq_getElem_cons h, List.getD_eq_getElem?_getD, List.getElem?_eq_getElem h]
  rfl

theorem impl_climbs_loop (l : List S137) (hl : l.length ≤ 12) : ∀ (d n : Nat) (s : Int) (xs : List Int), n + d = l.length → xs.length ≤ n →
    ((∀ m, n ≤ m → m < l.length → PhOk (l.getD m z137)) → Ev (fun k => impl_Climbs.l0 k s xs l (l.length : Int) (n : Int)) (xs ++ hts s (l.drop n), true)) ∧
    ((¬ ∀ m, n ≤ m → m < l.length → PhOk (l.getD m z137)) → Ev (fun k => impl_Climbs.l0 k s xs l (l.length : Int) (n : Int)) ([], false)) := by
  intro d
  induction d with
  | zero =>
    intro n s xs hn hx
    refine ⟨fun _ => ?_, fun h => absurd (fun m h1 h2 => by omega) h⟩
    refine ev_succ ?_
    simp only [impl_Climbs.l0]
    refine ev_neg (by omega) ?_
    rw [List.drop_of_length_le (by omega)]
    simp only [hts, List.append_nil]
    exact Ev.now _
  | succ d ih =>
    intro n s xs hn hx
    have e1 := w64_succ (m := 12) (n := n) (by omega) (by omega)
    obtain ⟨a, b⟩ := ih (n + 1) (wrap64 (s + wrap64 ((l.getD n z137).f0 * (l.getD n z137).f1))) (xs ++ [wrap64 (s + wrap64 ((l.getD n z137).f0 * (l.getD n z137).f1))]) (by omega) (by simp; omega)
    by_cases h1 : -100 ≤ (l.getD n z137).f0 ∧ (l.getD n z137).f0 ≤ 100
    · by_cases h2 : 1 ≤ (l.getD n z137).f1 ∧ (l.getD n z137).f1 ≤ 1000
      · constructor
        · intro h
          refine ev_succ ?_
          simp only [impl_Climbs.l0, rdP_nat, impl_in_eq, Option.bind_some, e1]
          refine ev_pos (by omega) (ev_pos (by omega) (ev_pos (by omega) (ev_pos (by simpa using h1) (ev_pos (by simpa using h2) (ev_pos (by omega) ?_)))))
          rw [drop_cons (by omega)]
          simp only [hts]
          have := a (fun m h3 h4 => h m (by omega) h4)
          simpa using this
        · intro h
          refine ev_succ ?_
          simp only [impl_Climbs.l0, rdP_nat, impl_in_eq, Option.bind_some, e1]
          refine ev_pos (by omega) (ev_pos (by omega) (ev_pos (by omega) (ev_pos (by simpa using h1) (ev_pos (by simpa using h2) (ev_pos (by omega) (b ?_))))))
          intro h3
          refine h (fun m h4 h5 => ?_)
          by_cases e : m = n
          · subst e; exact ⟨h1, h2⟩
          · exact h3 m (by omega) h5
      · refine ⟨fun h => absurd (h n (by omega) (by omega)).2 h2, fun _ => ?_⟩
        refine ev_succ ?_
        simp only [impl_Climbs.l0, rdP_nat, impl_in_eq, Option.bind_some, e1]
        exact ev_pos (by omega) (ev_pos (by omega) (ev_pos (by omega) (ev_pos (by simpa using h1) (ev_neg (by simpa using h2) (Ev.now _)))))
    · refine ⟨fun h => absurd (h n (by omega) (by omega)).1 h1, fun _ => ?_⟩
      refine ev_succ ?_
      simp only [impl_Climbs.l0, rdP_nat, impl_in_eq, Option.bind_some, e1]
      exact ev_pos (by omega) (ev_pos (by omega) (ev_pos (by omega) (ev_neg (by simpa using h1) (Ev.now _))))
theorem impl_climbs_ev (s : Int) (l : List S137) (hx : l.length ≤ 9223372036854775807) : (PhasesP s l → Ev (fun k => impl_Climbs.f k s l) (hts s l, true)) ∧ (¬ PhasesP s l → Ev (fun k => impl_Climbs.f k s l) ([], false)) := by
  have bad : Ev (fun k => impl_Climbs.j0 k s l true) ([], false) := by
    refine ev_succ ?_
    simp only [impl_Climbs.j0]
    exact ev_pos (by trivial) (Ev.now _)
  unfold impl_Climbs.f
  simp only [impl_in_eq, Option.bind_some]
  by_cases h1 : 0 ≤ s ∧ s ≤ 100000
  · simp only [decide_eq_true h1]
    by_cases h2 : (l.length : Int) > 12
    · simp only [decide_eq_true h2]
      exact ⟨fun h => by have := h.2.2; omega, fun _ => ev_pos (by trivial) bad⟩
    · simp only [decide_eq_false h2]
      obtain ⟨a, b⟩ := impl_climbs_loop l (by omega) l.length 0 s [] (by omega) (by simp)
      constructor
      · intro h
        refine ev_pos (by trivial) (ev_succ ?_)
        simp only [impl_Climbs.j0]
        refine ev_neg (by decide) ?_
        have := a (fun m _ h3 => h.1 m h3)
        simpa using this
      · intro h
        refine ev_pos (by trivial) (ev_succ ?_)
        simp only [impl_Climbs.j0]
        refine ev_neg (by decide) ?_
        exact b (fun h3 => h ⟨fun m h4 => h3 m (by omega) h4, h1, by omega⟩)
  · simp only [decide_eq_false h1]
    exact ⟨fun h => absurd h.2.1 h1, fun _ => ev_neg (by decide) bad⟩

instance (s : Int) (l : List S137) : Decidable (PhasesP s l) := by unfold PhasesP; infer_instance
theorem rdK_nat (l : List S134) (n : Nat) : rd_T134 l (n : Int) = l.getD n z134 := by
  unfold rd_T134
  rw [Int.toNat_natCast]
theorem drop_consK {l : List S134} {n : Nat} (h : n < l.length) : l.drop n = l.getD n z134 :: l.drop (n + 1) := by
  rw [List.drop_eq_getElem_cons h, List.getD_eq_getElem?_getD, List.getElem?_eq_getElem h]
  rfl
theorem spec_in_f (a b c : Int) : spec_l1In.f a b c = some (impl_Clears.in_ a b c) := by
  unfold spec_l1In.f impl_Clears.in_
  split <;> rfl
theorem spec_min_f (a b : Int) : spec_l1Min.f a b = some (mn a b) := by
  unfold spec_l1Min.f mn
  split <;> split <;> first | rfl | (congr 1; omega)
/-- How high at a tick, in Go's own numbers. -/
def high (s t : Int) : List S137 → Int
  | [] => s
  | p :: ps => high (wrap64 (s + wrap64 (p.f0 * mn t p.f1))) (wrap64 (t - mn t p.f1)) ps
theorem spec_high_loop (l : List S137) (hx : l.length ≤ 9223372036854775807) : ∀ (d n : Nat) (s t : Int), n + d = l.length → Ev (fun k => spec_l3High.l0 k s l t (n : Int)) (high s t (l.drop n)) := by
  intro d
  induction d with
  | zero =>
    intro n s t hn
    refine ev_succ ?_
    simp only [spec_l3High.l0]
    refine ev_neg (by omega) ?_
    rw [List.drop_of_length_le (by omega)]
    exact Ev.now _
  | succ d ih =>
    intro n s t hn
    refine ev_succ ?_
    simp only [spec_l3High.l0, rdP_nat, spec_min_f, Option.bind_some, w64_succ (m := l.length) (n := n) (by omega) hx]
    refine ev_pos (by omega) (ev_pos (by omega) ?_)
    rw [drop_cons (by omega)]
    exact ih (n + 1) _ _ (by omega)
theorem spec_high_ev (s t : Int) (l : List S137) (hx : l.length ≤ 9223372036854775807) : Ev (fun k => spec_l3High.f k s l t) (high s t l) := spec_high_loop l hx l.length 0 s t (by omega)
theorem impl_high_loop (l : List S137) (hx : l.length ≤ 9223372036854775807) : ∀ (d n : Nat) (s t : Int), n + d = l.length → Ev (fun k => impl_heightAt.l0 k s t l (l.length : Int) (n : Int)) (high s t (l.drop n)) := by
  intro d
  induction d with
  | zero =>
    intro n s t hn
    refine ev_succ ?_
    simp only [impl_heightAt.l0]
    refine ev_neg (by omega) ?_
    rw [List.drop_of_length_le (by omega)]
    exact Ev.now _
  | succ d ih =>
    intro n s t hn
    refine ev_succ ?_
    simp only [impl_heightAt.l0, rdP_nat, w64_succ (m := l.length) (n := n) (by omega) hx]
    refine ev_pos (by omega) (ev_pos (by omega) (ev_pos (by omega) ?_))
    rw [drop_cons (by omega)]
    exact ih (n + 1) _ _ (by omega)
theorem impl_high_ev (s t : Int) (l : List S137) (hx : l.length ≤ 9223372036854775807) : Ev (fun k => impl_heightAt.f k s l t) (high s t l) := impl_high_loop l hx l.length 0 s t (by omega)
/-- The first peak that is not cleared, from n on. -/
def firstLow (s : Int) (q : List S137) (m : Int) : List S134 → Nat → Int
  | [], _ => -1
  | p :: ps, n => if wrap64 (high s p.f0 q - p.f1) < m then (n : Int) else firstLow s q m ps (n + 1)
/-- The first peak that is not right, from n on. -/
def badAt : List S134 → Nat → Int
  | [], _ => -1
  | p :: ps, n => if impl_Clears.bad p.f0 p.f1 = true then (n : Int) else badAt ps (n + 1)
def clearsV (s : Int) (q : List S137) (l : List S134) (m : Int) : Int × Bool := if impl_Clears.go (decide (PhasesP s q)) (badAt l 0) l.length m = true then (firstLow s q m l 0, true) else (-2, false)
theorem impl_bad_loop (l : List S134) (hx : l.length ≤ 9223372036854775807) : ∀ (d n : Nat), n + d = l.length → Ev (fun k => impl_Clears.l0 k l (n : Int)) (badAt (l.drop n) n) := by
  intro d
  induction d with
  | zero =>
    intro n hn
    refine ev_succ ?_
    simp only [impl_Clears.l0]
    refine ev_neg (by omega) ?_
    rw [List.drop_of_length_le (by omega)]
    exact Ev.now _
  | succ d ih =>
    intro n hn
    refine ev_succ ?_
    simp only [impl_Clears.l0, rdK_nat, w64_succ (m := l.length) (n := n) (by omega) hx]
    refine ev_pos (by omega) (ev_pos (by omega) ?_)
    rw [drop_consK (by omega)]
    by_cases h : impl_Clears.bad (l.getD n z134).f0 (l.getD n z134).f1 = true
    · simp only [badAt, if_pos h]
      exact Ev.now _
    · simp only [badAt, if_neg h]
      exact ih (n + 1) (by omega)
theorem impl_first_loop (s : Int) (q : List S137) (m : Int) (hq : q.length ≤ 9223372036854775807) (l : List S134) (hx : l.length ≤ 9223372036854775807) : ∀ (d n : Nat), n + d = l.length → Ev (fun k => impl_Clears.l1 k s q m l (n : Int)) (firstLow s q m (l.drop n) n) := by
  intro d
  induction d with
  | zero =>
    intro n hn
    refine ev_succ ?_
    simp only [impl_Clears.l1]
    refine ev_neg (by omega) ?_
    rw [List.drop_of_length_le (by omega)]
    exact Ev.now _
  | succ d ih =>
    intro n hn
    refine ev_succ ?_
    simp only [impl_Clears.l1, rdK_nat, w64_succ (m := l.length) (n := n) (by omega) hx]
    refine ev_pos (by omega) (ev_pos (by omega) (Ev.bind (impl_high_ev _ _ q hq) ?_))
    rw [drop_consK (by omega)]
    by_cases h : wrap64 (high s (l.getD n z134).f0 q - (l.getD n z134).f1) < m
    · simp only [firstLow, if_pos h]
      exact ev_pos (decide_eq_true h) (Ev.now _)
    · simp only [firstLow, if_neg h]
      exact ev_neg (by simpa using h) (ih (n + 1) (by omega))
theorem spec_first_loop (s : Int) (q : List S137) (m : Int) (hq : q.length ≤ 9223372036854775807) (l : List S134) (hx : l.length ≤ 9223372036854775807) : ∀ (d n : Nat), n + d = l.length → Ev (fun k => spec_Clears.l1 k s q l m (n : Int)) (firstLow s q m (l.drop n) n, true) := by
  intro d
  induction d with
  | zero =>
    intro n hn
    refine ev_succ ?_
    simp only [spec_Clears.l1]
    refine ev_neg (by omega) ?_
    rw [List.drop_of_length_le (by omega)]
    exact Ev.now _
  | succ d ih =>
    intro n hn
    refine ev_succ ?_
    simp only [spec_Clears.l1, rdK_nat, w64_succ (m := l.length) (n := n) (by omega) hx]
    refine ev_pos (by omega) (ev_pos (by omega) (Ev.bind (spec_high_ev _ _ q hq) ?_))
    rw [drop_consK (by omega)]
    by_cases h : wrap64 (high s (l.getD n z134).f0 q - (l.getD n z134).f1) < m
    · simp only [firstLow, if_pos h]
      exact Ev.now _
    · simp only [firstLow, if_neg h]
      exact ih (n + 1) (by omega)
theorem spec_bad_loop (s : Int) (q : List S137) (m : Int) (hq : q.length ≤ 9223372036854775807) (l : List S134) (hx : l.length ≤ 9223372036854775807) : ∀ (d n : Nat), n + d = l.length → Ev (fun k => spec_Clears.l0 k s q l m (n : Int)) (if 0 ≤ badAt (l.drop n) n then (-2, false) else (firstLow s q m l 0, true)) := by
  intro d
  induction d with
  | zero =>
    intro n hn
    refine ev_succ ?_
    simp only [spec_Clears.l0]
    refine ev_neg (by omega) ?_
    rw [List.drop_of_length_le (by omega), if_neg (by simp [badAt])]
    exact spec_first_loop s q m hq l hx l.length 0 (by omega)
  | succ d ih =>
    intro n hn
    have e1 := w64_succ (m := l.length) (n := n) (by omega) hx
    refine ev_succ ?_
    simp only [spec_Clears.l0, rdK_nat, spec_in_f, Option.bind_some, e1]
    refine ev_pos (by omega) (ev_pos (by omega) ?_)
    rw [drop_consK (by omega)]
    have no : ∀ b, badAt (l.getD n z134 :: b) n = if impl_Clears.bad (l.getD n z134).f0 (l.getD n z134).f1 = true then (n : Int) else badAt b (n + 1) := fun b => rfl
    rw [no]
    unfold impl_Clears.bad
    cases impl_Clears.in_ (l.getD n z134).f0 0 12000
    · rw [if_pos (show ((!false || !impl_Clears.in_ (l.getD n z134).f1 0 1000000) = true) from rfl), if_pos (by omega)]
      exact ev_neg (by decide) (Ev.now _)
    · cases impl_Clears.in_ (l.getD n z134).f1 0 1000000
      · rw [if_pos (show ((!true || !false) = true) from rfl), if_pos (by omega)]
        exact ev_pos rfl (ev_neg (by decide) (Ev.now _))
      · rw [if_neg (show ¬ ((!true || !true) = true) by decide)]
        exact ev_pos rfl (ev_pos rfl (ih (n + 1) (by omega)))
theorem impl_clears_ev (s : Int) (q : List S137) (l : List S134) (m : Int) (hq : q.length ≤ 9223372036854775807) (hl : l.length ≤ 9223372036854775807) : Ev (fun k => impl_Clears.f k s q l m) (clearsV s q l m) := by
  obtain ⟨a, b⟩ := impl_climbs_ev s q hq
  unfold impl_Clears.f clearsV
  have hb : Ev (fun k => impl_Clears.l0 k l 0) (badAt l 0) := impl_bad_loop l hl l.length 0 (by omega)
  refine Ev.bind hb ?_
  by_cases h : PhasesP s q
  · refine Ev.bind (a h) ?_
    simp only [decide_eq_true h]
    by_cases g : impl_Clears.go true (badAt l 0) l.length m = true
    · rw [if_pos g]
      have hf : Ev (fun k => impl_Clears.l1 k s q m l 0) (firstLow s q m l 0) := impl_first_loop s q m hq l hl l.length 0 (by omega)
      exact ev_pos g (Ev.bind hf (Ev.now _))
    · rw [if_neg g]
      exact ev_neg g (Ev.now _)
  · refine Ev.bind (b h) ?_
    simp only [decide_eq_false h]
    rw [if_neg (by simp [impl_Clears.go])]
    exact ev_neg (by simp [impl_Clears.go]) (Ev.now _)
theorem spec_clears_ev (s : Int) (q : List S137) (l : List S134) (m : Int) (hq : q.length ≤ 9223372036854775807) (hl : l.length ≤ 9223372036854775807) : Ev (fun k => spec_Clears.f k s q l m) (clearsV s q l m) := by
  obtain ⟨b, hb, ib⟩ := spec_phases_ev s q hq
  have bad : Ev (fun k => spec_Clears.j0 k s q l m true) (-2, false) := by
    refine ev_succ ?_
    simp only [spec_Clears.j0]
    exact ev_pos (by trivial) (Ev.now _)
  unfold spec_Clears.f clearsV
  simp only [spec_in_f, Option.bind_some]
  refine Ev.bind hb ?_
  by_cases h : PhasesP s q
  · obtain rfl : b = true := ib.2 h
    simp only [decide_eq_true h]
    refine ev_pos (by trivial) ?_
    by_cases h2 : (l.length : Int) > 20
    · rw [if_neg (by simp [impl_Clears.go]; omega)]
      exact ev_pos h2 bad
    refine ev_neg h2 ?_
    have d2 : decide ((20 : Int) < (l.length : Int)) = false := decide_eq_false h2
    unfold impl_Clears.go
    rw [d2]
    cases impl_Clears.in_ m 0 1000
    · rw [if_neg (by simp)]
      exact bad
    · refine ev_succ ?_
      simp only [spec_Clears.j0]
      refine ev_neg (by decide) ?_
      have k := spec_bad_loop s q m hq l hl l.length 0 (by omega)
      rw [List.drop_zero] at k
      by_cases g : 0 ≤ badAt l 0
      · rw [if_pos g] at k
        rw [if_neg (by simp [g])]
        exact k
      · rw [if_neg g] at k
        rw [if_pos (by simpa using g)]
        exact k
  · obtain rfl : b = false := by cases b with | true => exact absurd (ib.1 rfl) h | false => rfl
    simp only [decide_eq_false h]
    rw [if_neg (by simp [impl_Clears.go])]
    exact ev_neg (by decide) bad

theorem szPhaseS_eq (l : List S139) (m : Int) (h0 : 0 ≤ m) (h1 : m ≤ 1048576) (hl : l.length ≤ 9223372036854775807) : laws_szPhaseS.f l m = some (if m - l.length < 0 then -1 else m - l.length) := by
  unfold laws_szPhaseS.f
  rw [w64 (x := m - (l.length : Int)) (by omega) (by omega)]
  by_cases h : m - (l.length : Int) < 0
  · rw [if_pos h, if_pos h]
  · rw [if_neg h, if_neg h]

theorem szPeakS_eq (l : List S141) (m : Int) (h0 : 0 ≤ m) (h1 : m ≤ 1048576) (hl : l.length ≤ 9223372036854775807) : laws_szPeakS.f l m = some (if m - l.length < 0 then -1 else m - l.length) := by
  unfold laws_szPeakS.f
  rw [w64 (x := m - (l.length : Int)) (by omega) (by omega)]
  by_cases h : m - (l.length : Int) < 0
  · rw [if_pos h, if_pos h]
  · rw [if_neg h, if_neg h]

def c_Phase (x : S139) : S137 := ⟨x.f0, x.f1⟩
theorem toPhaseS_loop (x0 : List S139) (hx : x0.length ≤ 9223372036854775807) : ∀ (d n : Nat) (x3 : List S137), n + d = x0.length → x3.length = x0.length → x3.take n = (x0.map c_Phase).take n → Ev (fun k => laws_toPhaseS.l0 k x0 x3 (n : Int)) (x0.map c_Phase) := by
  intro d
  induction d with
  | zero =>
    intro n x3 hn hl ht
    refine ev_succ ?_
    simp only [laws_toPhaseS.l0]
    refine ev_neg (by omega) ?_
    have e : x3 = x0.map c_Phase := by rw [← List.take_of_length_le (l := x3) (i := n) (by omega), ht, List.take_of_length_le (by simp; omega)]
    rw [e]
    exact Ev.now _
  | succ d ih =>
    intro n x3 hn hl ht
    have e : (⟨(rd_T139 x0 (n : Int)).f0, (rd_T139 x0 (n : Int)).f1⟩ : S137) = (x0.map c_Phase).getD n (c_Phase z139) := by
      rw [getD_map]
      simp [rd_T139, c_Phase]
    refine ev_succ ?_
    simp only [laws_toPhaseS.l0, laws_toPhase.f, Option.bind_some, Int.toNat_natCast]
    refine ev_pos (by omega) (ev_pos (by omega) (ev_pos (by omega) ?_))
    rw [e, w64_succ (m := x0.length) (by omega) hx]
    exact ih (n + 1) _ (by omega) (by simpa using hl) (take_set_succ _ (by simp; omega) (by simpa using hl) ht)
theorem toPhaseS_ev (l : List S139) (h : l.length ≤ 1048576) : Ev (fun k => laws_toPhaseS.f k l) (l.map c_Phase) := by
  unfold laws_toPhaseS.f
  refine ev_pos (by omega) (ev_pos (by omega) ?_)
  exact toPhaseS_loop l (by omega) l.length 0 _ (by omega) (by simp) (by simp)

def c_Peak (x : S141) : S134 := ⟨x.f0, x.f1⟩
theorem toPeakS_loop (x0 : List S141) (hx : x0.length ≤ 9223372036854775807) : ∀ (d n : Nat) (x3 : List S134), n + d = x0.length → x3.length = x0.length → x3.take n = (x0.map c_Peak).take n → Ev (fun k => laws_toPeakS.l0 k x0 x3 (n : Int)) (x0.map c_Peak) := by
  intro d
  induction d with
  | zero =>
    intro n x3 hn hl ht
    refine ev_succ ?_
    simp only [laws_toPeakS.l0]
    refine ev_neg (by omega) ?_
    have e : x3 = x0.map c_Peak := by rw [← List.take_of_length_le (l := x3) (i := n) (by omega), ht, List.take_of_length_le (by simp; omega)]
    rw [e]
    exact Ev.now _
  | succ d ih =>
    intro n x3 hn hl ht
    have e : (⟨(rd_T141 x0 (n : Int)).f0, (rd_T141 x0 (n : Int)).f1⟩ : S134) = (x0.map c_Peak).getD n (c_Peak z141) := by
      rw [getD_map]
      simp [rd_T141, c_Peak]
    refine ev_succ ?_
    simp only [laws_toPeakS.l0, laws_toPeak.f, Option.bind_some, Int.toNat_natCast]
    refine ev_pos (by omega) (ev_pos (by omega) (ev_pos (by omega) ?_))
    rw [e, w64_succ (m := x0.length) (by omega) hx]
    exact ih (n + 1) _ (by omega) (by simpa using hl) (take_set_succ _ (by simp; omega) (by simpa using hl) ht)
theorem toPeakS_ev (l : List S141) (h : l.length ≤ 1048576) : Ev (fun k => laws_toPeakS.f k l) (l.map c_Peak) := by
  unfold laws_toPeakS.f
  refine ev_pos (by omega) (ev_pos (by omega) ?_)
  exact toPeakS_loop l (by omega) l.length 0 _ (by omega) (by simp) (by simp)

theorem eqPhase_eq (a0 : Int) (a1 : Int) : laws_eqPhase.f a0 a1 a0 a1 = some true := by
  simp [laws_eqPhase.f]
theorem eqPhaseS_loop (x0 : List S137) (hx : x0.length ≤ 9223372036854775807) : ∀ (d n : Nat), n + d = x0.length → Ev (fun k => laws_eqPhaseS.l0 k x0 x0 (n : Int)) true := by
  intro d
  induction d with
  | zero =>
    intro n hn
    refine ev_succ ?_
    simp only [laws_eqPhaseS.l0]
    exact ev_neg (by omega) (Ev.now _)
  | succ d ih =>
    intro n hn
    refine ev_succ ?_
    simp only [laws_eqPhaseS.l0, eqPhase_eq, Option.bind_some]
    refine ev_pos (by omega) (ev_pos (by omega) (ev_pos (by omega) (ev_pos (by trivial) ?_)))
    rw [w64_succ (m := x0.length) (by omega) hx]
    exact ih (n + 1) (by omega)
theorem eqPhaseS_ev (l : List S137) (h : l.length ≤ 9223372036854775807) : Ev (fun k => laws_eqPhaseS.f k l l) true := by
  unfold laws_eqPhaseS.f
  exact ev_pos (by trivial) (eqPhaseS_loop l h l.length 0 (by omega))

theorem eqPeak_eq (a0 : Int) (a1 : Int) : laws_eqPeak.f a0 a1 a0 a1 = some true := by
  simp [laws_eqPeak.f]
theorem eqPeakS_loop (x0 : List S134) (hx : x0.length ≤ 9223372036854775807) : ∀ (d n : Nat), n + d = x0.length → Ev (fun k => laws_eqPeakS.l0 k x0 x0 (n : Int)) true := by
  intro d
  induction d with
  | zero =>
    intro n hn
    refine ev_succ ?_
    simp only [laws_eqPeakS.l0]
    exact ev_neg (by omega) (Ev.now _)
  | succ d ih =>
    intro n hn
    refine ev_succ ?_
    simp only [laws_eqPeakS.l0, eqPeak_eq, Option.bind_some]
    refine ev_pos (by omega) (ev_pos (by omega) (ev_pos (by omega) (ev_pos (by trivial) ?_)))
    rw [w64_succ (m := x0.length) (by omega) hx]
    exact ih (n + 1) (by omega)
theorem eqPeakS_ev (l : List S134) (h : l.length ≤ 9223372036854775807) : Ev (fun k => laws_eqPeakS.f k l l) true := by
  unfold laws_eqPeakS.f
  exact ev_pos (by trivial) (eqPeakS_loop l h l.length 0 (by omega))

theorem FnExactClears : laws_FnExactClears.PureR := by
  intro s q l m _ ⟨hx, _⟩ ⟨hy, _⟩ _
  refine Ev.rounds ?_
  unfold laws_FnExactClears.f
  rw [szPhaseS_eq q _ (by omega) (by omega) hx]
  simp only [Option.bind_some]
  by_cases hb : (1048576 : Int) - q.length < 0
  · rw [if_pos hb]
    exact ev_pos (by omega) (Ev.now _)
  rw [if_neg hb]
  rw [szPeakS_eq l _ (by omega) (by omega) hy]
  simp only [Option.bind_some]
  refine ev_neg hb ?_
  by_cases hc : (1048576 : Int) - q.length - l.length < 0
  · rw [if_pos hc]
    exact ev_pos (by omega) (Ev.now _)
  rw [if_neg hc]
  refine ev_neg hc ?_
  have h1 := spec_clears_ev s (q.map c_Phase) (l.map c_Peak) m (by simp; omega) (by simp; omega)
  have h2 := impl_clears_ev s (q.map c_Phase) (l.map c_Peak) m (by simp; omega) (by simp; omega)
  have tq := toPhaseS_ev q (by omega)
  have tl := toPeakS_ev l (by omega)
  have eq := eqPhaseS_ev (q.map c_Phase) (by simp; omega)
  have el := eqPeakS_ev (l.map c_Peak) (by simp; omega)
  refine Ev.bind tq (Ev.bind tl (Ev.bind h1 (Ev.bind tq (Ev.bind tl (Ev.bind h2 (ev_pos (by trivial) (ev_succ ?_)))))))
  simp only [laws_FnExactClears.j0]
  exact ev_neg (by simp) (Ev.bind tq (Ev.bind eq (ev_pos (by trivial) (Ev.bind tl (Ev.bind el (ev_pos (by trivial) (Ev.now _)))))))

end Go.Proofs.Ytnphbpkpjinddaa.Pure
