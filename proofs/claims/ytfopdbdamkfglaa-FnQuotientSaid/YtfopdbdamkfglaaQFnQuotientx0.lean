/- Lean functions that tell what the Go functions used by one law answer, and for each a proof that the Go code comes to just these answers; no condition. Printed by this session's own program over the kit's printer. -/
import Derived.Test.YtfopdbdamkfglaaProg
import Derived.Below
import Derived.Deep.Draws
import Derived.Deep.AppendLies
import Derived.Maps.AppendAt
import Derived.OwnWalk
import Derived.Laws.BytesArg
import Derived.Laws.MakeOwn
import Derived.Laws.OwnMore
import Derived.Deep.OwnRows
import Derived.Tactics
import Derived.Lib.ConvBytes
import Derived.Laws.Slices
import Derived.WalkKit
import Derived.KernelRfl
import Derived.RowKit3
import Derived.Deep.LoopGhost
import Derived.Deep.QuietTactic
import Derived.BigQuiet
import Derived.WideLaws
import Derived.Deep.DeepCutAuto
import Derived.Deep.CutBlock
import Derived.Deep.RegionHeld3
import Derived.Laws.Rows
import Derived.Lib.AppendStr
import Derived.ArgAppend
import Derived.Laws.IdiomCopy
import Derived.OrdersHeld
import Derived.Laws.BitsLemmas
import Derived.RowKit
import Derived.Test.YtfopdbdamkfglaaWWords
import Derived.Test.YtfopdbdamkfglaaWLast
import Derived.Test.YtfopdbdamkfglaaWTab
import Derived.Test.YtfopdbdamkfglaaWFour
import Derived.Test.YtfopdbdamkfglaaWQPut
import Derived.Test.YtfopdbdamkfglaaWApart
import Derived.Test.YtfopdbdamkfglaaWArr
import Derived.Test.YtfopdbdamkfglaaWZeros
import Derived.Test.YtfopdbdamkfglaaWFoot
import Derived.Test.YtfopdbdamkfglaaWKept
import Derived.Test.YtfopdbdamkfglaaWShare
import Derived.Test.YtfopdbdamkfglaaWN
import Derived.Test.YtfopdbdamkfglaaWFootNe
import Derived.Test.YtfopdbdamkfglaaWAt
import Derived.Test.YtfopdbdamkfglaaWEqStruct
import Derived.Test.YtfopdbdamkfglaaWRepsOne
import Derived.Test.YtfopdbdamkfglaaWInv
import Derived.Test.YtfopdbdamkfglaaWInvWords
import Derived.Test.YtfopdbdamkfglaaWGuard
import Derived.Test.YtfopdbdamkfglaaWNEv
import Derived.Test.YtfopdbdamkfglaaWMore
import Derived.Test.YtfopdbdamkfglaaWFl
namespace Go.Proofs.Ytfopdbdamkfglaa.QFnQuotient
open Go.RowKit Go.Proofs.YtfopdbdamkfglaaW.PrintWords Go.Proofs.YtfopdbdamkfglaaW.PrintLast Go.Proofs.YtfopdbdamkfglaaW.PrintMore
attribute [local go_sem] max2_int min2_int max_two min_two max_three min_three max_four min_four   -- for this text's walks alone
attribute [local go_sem high] go_eql go_neq go_lss go_leq go_gtr go_geq go_store   -- for this text's walks alone
set_option linter.unusedVariables false
set_option linter.unusedSimpArgs false



def errW : Option Int → Value
  | none => .nilIface
  | some c => .iface 0 (.int .i64 c)
theorem errW_none : errW none = .nilIface := rfl
theorem errW_some (c : Int) : errW (some c) = .iface 0 (.int .i64 c) := rfl

theorem info23 : (Try.prog.info? 23).map (fun i => (i.zero, i.size, i.bytes)) = some (some (.float .f64 0), 1, 8) := by kernel_rfl
theorem info34 : (Try.prog.info? 34).map (fun i => (i.zero, i.size, i.bytes)) = some (some (.agg #[(.float .f64 0), (.float .f64 0)]), 2, 16) := by kernel_rfl
theorem info80 : (Try.prog.info? 80).map (fun i => (i.zero, i.size, i.bytes)) = some (some (.agg #[(.float .f32 0), (.float .f32 0)]), 2, 8) := by kernel_rfl
-- the values' own types
/-! #### struct type 80 -/
structure S80 where
  f0 : Fl
  f1 : Fl
def z80 : S80 := ⟨(cn .f32 0), (cn .f32 0)⟩
def k80 : Kd S80 := Kd.iso (Kd.pair (Kd.fl .f32) (Kd.fl .f32)) (fun x : S80 => (x.f0, x.f1))
theorem k80_open {w : World} {x : S80} {cs : List Value} (h : k80.K w x cs) : ∃ b0 b1, cs = [.float .f32 b0, .float .f32 b1] ∧ cn .f32 b0 = x.f0 ∧ cn .f32 b1 = x.f1 := by
  obtain ⟨_, _, rfl, ⟨b0, rfl, hF0⟩, ⟨b1, rfl, hF1⟩⟩ := h
  exact ⟨b0, b1, rfl, hF0, hF1⟩
theorem k80_openM {w : World} {base : Nat} {ok : Nat → Prop} {x : S80} {cs : List Value} (h : k80.M w base ok x cs) : ∃ b0 b1, cs = [.float .f32 b0, .float .f32 b1] ∧ cn .f32 b0 = x.f0 ∧ cn .f32 b1 = x.f1 := by
  obtain ⟨_, _, rfl, ⟨b0, rfl, hF0⟩, ⟨b1, rfl, hF1⟩⟩ := h
  exact ⟨b0, b1, rfl, hF0, hF1⟩
theorem k80_mk (w : World) (x : S80)  {b0 : Nat} (hF0 : cn .f32 b0 = x.f0) {b1 : Nat} (hF1 : cn .f32 b1 = x.f1) : k80.K w x [.float .f32 b0, .float .f32 b1] := ⟨[.float .f32 b0], [.float .f32 b1], rfl, ⟨b0, rfl, hF0⟩, ⟨b1, rfl, hF1⟩⟩
theorem k80_mkM (w : World) (base : Nat) (ok : Nat → Prop) (x : S80)  {b0 : Nat} (hF0 : cn .f32 b0 = x.f0) {b1 : Nat} (hF1 : cn .f32 b1 = x.f1) : k80.M w base ok x [.float .f32 b0, .float .f32 b1] := ⟨[.float .f32 b0], [.float .f32 b1], rfl, ⟨b0, rfl, hF0⟩, ⟨b1, rfl, hF1⟩⟩
def rd_T80 (xs : List S80) (i : Int) : S80 := xs.getD i.toNat z80
theorem at_T80 {w : World} {A : Option Addr} {n : Nat} {xs : List S80} (h : Kd.C k80 w A n xs) (i : Int) (h0 : 0 ≤ i) (h1 : i < n) : ∃ ad b0 b1, A = some ad ∧ w.cell? (ad.add (i.toNat * 2)) = some (.float .f32 b0) ∧ w.cell? ⟨(ad.add (i.toNat * 2)).block, (ad.add (i.toNat * 2)).off + 1, none⟩ = some (.float .f32 b1) ∧ cn .f32 b0 = (rd_T80 xs i).f0 ∧ cn .f32 b1 = (rd_T80 xs i).f1 := by
  obtain ⟨ad, c, e, _, hK, hc0⟩ := Kd.C_get h z80 i h0 h1
  have hc : ∀ j u, c[j]? = some u → w.cell? (ad.add (i.toNat * 2 + j)) = some u := hc0
  obtain ⟨b0, b1, rfl, hF0, hF1⟩ := k80_open hK
  exact ⟨ad, b0, b1, e, hc 0 _ rfl, by rw [← add_field _ _ 1 (by omega)]; exact hc 1 _ rfl, hF0, hF1⟩

/-! #### struct type 34 -/
structure S34 where
  f0 : Fl
  f1 : Fl
def z34 : S34 := ⟨(cn .f64 0), (cn .f64 0)⟩
def k34 : Kd S34 := Kd.iso (Kd.pair (Kd.fl .f64) (Kd.fl .f64)) (fun x : S34 => (x.f0, x.f1))
theorem k34_open {w : World} {x : S34} {cs : List Value} (h : k34.K w x cs) : ∃ b0 b1, cs = [.float .f64 b0, .float .f64 b1] ∧ cn .f64 b0 = x.f0 ∧ cn .f64 b1 = x.f1 := by
  obtain ⟨_, _, rfl, ⟨b0, rfl, hF0⟩, ⟨b1, rfl, hF1⟩⟩ := h
  exact ⟨b0, b1, rfl, hF0, hF1⟩
theorem k34_openM {w : World} {base : Nat} {ok : Nat → Prop} {x : S34} {cs : List Value} (h : k34.M w base ok x cs) : ∃ b0 b1, cs = [.float .f64 b0, .float .f64 b1] ∧ cn .f64 b0 = x.f0 ∧ cn .f64 b1 = x.f1 := by
  obtain ⟨_, _, rfl, ⟨b0, rfl, hF0⟩, ⟨b1, rfl, hF1⟩⟩ := h
  exact ⟨b0, b1, rfl, hF0, hF1⟩
theorem k34_mk (w : World) (x : S34)  {b0 : Nat} (hF0 : cn .f64 b0 = x.f0) {b1 : Nat} (hF1 : cn .f64 b1 = x.f1) : k34.K w x [.float .f64 b0, .float .f64 b1] := ⟨[.float .f64 b0], [.float .f64 b1], rfl, ⟨b0, rfl, hF0⟩, ⟨b1, rfl, hF1⟩⟩
theorem k34_mkM (w : World) (base : Nat) (ok : Nat → Prop) (x : S34)  {b0 : Nat} (hF0 : cn .f64 b0 = x.f0) {b1 : Nat} (hF1 : cn .f64 b1 = x.f1) : k34.M w base ok x [.float .f64 b0, .float .f64 b1] := ⟨[.float .f64 b0], [.float .f64 b1], rfl, ⟨b0, rfl, hF0⟩, ⟨b1, rfl, hF1⟩⟩
def rd_T34 (xs : List S34) (i : Int) : S34 := xs.getD i.toNat z34
theorem at_T34 {w : World} {A : Option Addr} {n : Nat} {xs : List S34} (h : Kd.C k34 w A n xs) (i : Int) (h0 : 0 ≤ i) (h1 : i < n) : ∃ ad b0 b1, A = some ad ∧ w.cell? (ad.add (i.toNat * 2)) = some (.float .f64 b0) ∧ w.cell? ⟨(ad.add (i.toNat * 2)).block, (ad.add (i.toNat * 2)).off + 1, none⟩ = some (.float .f64 b1) ∧ cn .f64 b0 = (rd_T34 xs i).f0 ∧ cn .f64 b1 = (rd_T34 xs i).f1 := by
  obtain ⟨ad, c, e, _, hK, hc0⟩ := Kd.C_get h z34 i h0 h1
  have hc : ∀ j u, c[j]? = some u → w.cell? (ad.add (i.toNat * 2 + j)) = some u := hc0
  obtain ⟨b0, b1, rfl, hF0, hF1⟩ := k34_open hK
  exact ⟨ad, b0, b1, e, hc 0 _ rfl, by rw [← add_field _ _ 1 (by omega)]; exact hc 1 _ rfl, hF0, hF1⟩

/-- short names for three lemmas of lists -/
theorem qa_ {α : Type} (xs : List α) (i : Nat) (a : α) : xs.toArray.setIfInBounds i a = (xs.set i a).toArray := List.setIfInBounds_toArray xs i a
theorem qb_ {α : Type} (x : α) (xs : List α) (a : α) : (x :: xs).set 0 a = a :: xs := List.set_cons_zero
theorem qc_ {α : Type} (x : α) (xs : List α) (n : Nat) (a : α) : (x :: xs).set (n + 1) a = x :: xs.set n a := List.set_cons_succ
end Go.Proofs.Ytfopdbdamkfglaa.QFnQuotient
