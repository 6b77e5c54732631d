/- What a value that can be read as data says in the words of the print's kinds: whole numbers, bools, slices, structs. No condition of its own. -/
import Derived.ProofKit
import Derived.Deep.Slices
import Derived.WalkKit
import Derived.DataReads
import Derived.ChangeArms
import Derived.Test.YtnphbpkpjinddaaWWords
namespace Go.Proofs.Ytnphbpkpjinddaa.Open
open Go.RowKit Go.ChangeShapes Go.WideShapes Go.Deep Go.Proofs.YtnphbpkpjinddaaW.PrintWords
set_option linter.unusedVariables false

/-- Whatever is read at type t is told by d, and Wf holds of it. -/
def Opens (P : Program) {α : Type} (d : Kd α) (t : TypeId) (Wf : α → Prop) : Prop :=
  ∀ {H : Type} {enc : TypeId × Value → H} {w : World} {base : Nat} {spare : Nat → Bool} {held : Bool} {fuel : Nat} {cs : List Value} {x : DataW H × List MemPlace},
    DataW.trod enc P w base spare held fuel t cs = some x → ∃ y, d.K w y cs ∧ Wf y

theorem opens_int {P : Program} {t : TypeId} {k : IntKind} (h : P.underlying t = some (.int k)) : Opens P (Kd.int k) t (fun n => (Lit.int k n).wf = true) := by
  intro H enc w base spare held fuel cs x hx
  obtain ⟨n, rfl, _, hw⟩ := DataW.trod_int h hx
  exact ⟨n, rfl, hw⟩

theorem opens_i64 {P : Program} {t : TypeId} (h : P.underlying t = some (.int .i64)) : Opens P (Kd.int .i64) t (fun n => -9223372036854775808 ≤ n ∧ n ≤ 9223372036854775807) := by
  intro H enc w base spare held fuel cs x hx
  obtain ⟨n, rfl, _, hw⟩ := DataW.trod_int h hx
  refine ⟨n, rfl, ?_⟩
  have h2 : IntKind.i64.min ≤ n ∧ n ≤ IntKind.i64.max := by simpa [Lit.wf] using hw
  exact h2

theorem opens_u8 {P : Program} {t : TypeId} (h : P.underlying t = some (.int .u8)) : Opens P (Kd.int .u8) t (fun n => 0 ≤ n ∧ n ≤ 255) := by
  intro H enc w base spare held fuel cs x hx
  obtain ⟨n, rfl, _, hw⟩ := DataW.trod_int h hx
  refine ⟨n, rfl, ?_⟩
  have h2 : IntKind.u8.min ≤ n ∧ n ≤ IntKind.u8.max := by simpa [Lit.wf] using hw
  exact h2

theorem opens_bool {P : Program} {t : TypeId} (h : P.underlying t = some .bool) : Opens P Kd.bool t (fun _ => True) := by
  intro H enc w base spare held fuel cs x hx
  obtain ⟨n, rfl, _⟩ := DataW.trod_bool h hx
  exact ⟨n, rfl, trivial⟩

theorem cells_each {w : World} {base n : Nat} {a : Addr} {cs : List Value} (h : w.cells? base a n = some cs) : cs.length = n ∧ ∀ i u, cs[i]? = some u → w.cell? (a.add i) = some u := by
  unfold World.cells? at h
  split at h
  · have hl := mapM_some_length h
    refine ⟨by simpa using hl, fun i u hu => ?_⟩
    have hi : i < n := by
      have := (List.getElem?_eq_some_iff.1 hu).1
      simp at hl
      omega
    have := mapM_some_get h i i (by simp [hi])
    rw [this, hu]
  · cases h

theorem opens_slice {P : Program} {α : Type} {d : Kd α} {t e : TypeId} {Wf : α → Prop} (z : α) (h : P.underlying t = some (.slice e)) (hc : P.cellsOf e = d.sz) (hd : Opens P d e Wf) :
    Opens P (Kd.slice e d) t (fun xs => xs.length ≤ 9223372036854775807 ∧ ∀ y ∈ xs, Wf y) := by
  intro H enc w base spare held fuel cs x hx
  rcases open_slice h hx with ⟨rfl, _⟩ | ⟨a, len, cap, m, n, D, Pl, rfl, _, hl, hm, hmm, _, hel⟩
  · exact ⟨[], ⟨none, 0, rfl, Nat.le_refl _, rfl, by simp, fun h => by cases h⟩, by simp, by simp⟩
  · have hm' : cap ≤ 9223372036854775807 := by unfold maxLen at hm; exact hm
    have hlm : len ≤ m := by rw [hmm]; split <;> omega
    have hex : ∀ i, ∃ y : α, i < len → Wf y ∧ ∃ cs', cs'.length = d.sz ∧ d.K w y cs' ∧ ∀ j u, cs'[j]? = some u → w.cell? (a.add (i * d.sz + j)) = some u := by
      intro i
      by_cases hi : i < len
      · obtain ⟨cs', h1, h2⟩ := hel i (by omega)
        obtain ⟨y, hK, hW⟩ := hd h2
        obtain ⟨h3, h4⟩ := cells_each h1
        refine ⟨y, fun _ => ⟨hW, cs', by rw [h3, hc], hK, fun j u hu => ?_⟩⟩
        have := h4 j u hu
        rw [hc] at this
        rw [← this, Go.Deep.add_add]
      · exact ⟨z, fun h => absurd h hi⟩
    obtain ⟨f, hf⟩ := Classical.axiomOfChoice hex
    have hlen : ((List.range len).map f).length = len := by simp
    refine ⟨(List.range len).map f, ⟨some a, cap, by rw [hlen], by rw [hlen]; exact hl, ?_⟩, by rw [hlen]; omega, ?_⟩
    · refine ⟨rfl, by rw [hlen]; omega, fun hp => ⟨a, rfl, fun j p hj => ?_⟩⟩
      simp only [List.getElem?_map, Option.map_eq_some_iff] at hj
      obtain ⟨i, hi, rfl⟩ := hj
      have hil := (List.getElem?_eq_some_iff.1 hi).1
      have hij : i = j := by
        have := (List.getElem?_eq_some_iff.1 hi).2
        simpa using this.symm
      subst hij
      obtain ⟨_, cs', h3, h4, h5⟩ := hf i (by simpa using hil)
      exact ⟨cs', h3, h4, h5⟩
    · intro y hy
      simp only [List.mem_map, List.mem_range] at hy
      obtain ⟨i, hi, rfl⟩ := hy
      exact (hf i hi).1

/-- The fields of a struct, one behind the other. -/
def OpensL (P : Program) {α : Type} (d : Kd α) (off : Nat) (ts : List (TypeId × Nat)) (Wf : α → Prop) : Prop :=
  ∀ {H : Type} {enc : TypeId × Value → H} {w : World} {base : Nat} {spare : Nat → Bool} {held : Bool} {cs : List Value},
    (∀ t o, (t, o) ∈ ts → ∃ n x, DataW.trod enc P w base spare held n t ((cs.drop o).take (P.cellsOf t)) = some x) → cs.length = off + d.sz → ∃ y, d.K w y (cs.drop off) ∧ Wf y

theorem opensL_one {P : Program} {α : Type} {d : Kd α} {t : TypeId} {off : Nat} {Wf : α → Prop} (hc : P.cellsOf t = d.sz) (hd : Opens P d t Wf) : OpensL P d off [(t, off)] Wf := by
  intro H enc w base spare held cs hts hl
  obtain ⟨n, x, hx⟩ := hts t off (by simp)
  rw [hc, List.take_of_length_le (by simp; omega)] at hx
  exact hd hx

theorem opensL_cons {P : Program} {α β : Type} {a : Kd α} {b : Kd β} {t : TypeId} {off off' : Nat} {ts : List (TypeId × Nat)} {Wa : α → Prop} {Wb : β → Prop} (hc : P.cellsOf t = a.sz) (ho : off' = off + a.sz) (ha : Opens P a t Wa) (hb : OpensL P b off' ts Wb) :
    OpensL P (Kd.pair a b) off ((t, off) :: ts) (fun y => Wa y.1 ∧ Wb y.2) := by
  intro H enc w base spare held cs hts hl
  subst ho
  have hsz : (Kd.pair a b).sz = a.sz + b.sz := rfl
  rw [hsz] at hl
  obtain ⟨n, x, hx⟩ := hts t off (by simp)
  rw [hc] at hx
  obtain ⟨y, hy, wy⟩ := ha hx
  obtain ⟨y', hy', wy'⟩ := hb (fun t o h => hts t o (List.mem_cons_of_mem _ h)) (by omega)
  refine ⟨(y, y'), ⟨(cs.drop off).take a.sz, cs.drop (off + a.sz), ?_, hy, hy'⟩, wy, wy'⟩
  rw [← List.drop_drop, List.take_append_drop]

theorem opens_struct {P : Program} {α β : Type} {d : Kd α} {t : TypeId} {fs : Array Field} {ts : List (TypeId × Nat)} {Wf : α → Prop} {f : β → α} (g : α → β) (hg : ∀ y, f (g y) = y) (h : P.underlying t = some (.struct fs))
    (hf : fs.toList.map (fun q => (q.type, q.offset)) = ts) (hc : P.cellsOf t = d.sz) (hd : OpensL P d 0 ts Wf) : Opens P (Kd.iso d f) t (fun y => Wf (f y)) := by
  intro H enc w base spare held fuel cs x hx
  obtain ⟨xs, n, rfl, _, hl, hxs, hel⟩ := DataW.trod_struct h hx
  obtain ⟨y, hy, wy⟩ := hd (cs := cs) (w := w) (enc := enc) (base := base) (spare := spare) (held := held) (fun t' o ho => by
    rw [← hf] at ho
    simp only [List.mem_map, Prod.mk.injEq] at ho
    obtain ⟨q, hq, rfl, rfl⟩ := ho
    obtain ⟨i, hi⟩ := List.getElem?_of_mem hq
    have hi' : fs[i]? = some q := by simpa using hi
    have hlt : i < xs.length := by
      rw [hxs]
      exact (Array.getElem?_eq_some_iff.1 hi').1
    exact ⟨n, xs[i], by rw [hel i q hi', List.getElem?_eq_getElem hlt]⟩) (by rw [hl, hc, Nat.zero_add])
  refine ⟨g y, ?_, by show Wf (f (g y)); rw [hg]; exact wy⟩
  show d.K w (f (g y)) cs
  rw [hg]
  simpa using hy

end Go.Proofs.Ytnphbpkpjinddaa.Open
