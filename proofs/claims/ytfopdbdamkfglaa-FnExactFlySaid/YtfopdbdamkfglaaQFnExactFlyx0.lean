/- Lean functions that tell what the Go functions used by one law answer, and for each a proof that the Go code comes to just these answers; no condition. Printed by this session's own program over the kit's printer. -/
import Derived.Test.YtfopdbdamkfglaaProg
import Derived.Below
import Derived.Deep.Draws
import Derived.Deep.AppendLies
import Derived.Maps.AppendAt
import Derived.OwnWalk
import Derived.Laws.BytesArg
import Derived.Laws.MakeOwn
import Derived.Laws.OwnMore
import Derived.Deep.OwnRows
import Derived.Tactics
import Derived.Lib.ConvBytes
import Derived.Laws.Slices
import Derived.WalkKit
import Derived.KernelRfl
import Derived.RowKit3
import Derived.Deep.LoopGhost
import Derived.Deep.QuietTactic
import Derived.BigQuiet
import Derived.WideLaws
import Derived.Deep.DeepCutAuto
import Derived.Deep.CutBlock
import Derived.Deep.RegionHeld3
import Derived.Laws.Rows
import Derived.Lib.AppendStr
import Derived.ArgAppend
import Derived.Laws.IdiomCopy
import Derived.OrdersHeld
import Derived.Laws.BitsLemmas
import Derived.RowKit
import Derived.Test.YtfopdbdamkfglaaWWords
import Derived.Test.YtfopdbdamkfglaaWLast
import Derived.Test.YtfopdbdamkfglaaWTab
import Derived.Test.YtfopdbdamkfglaaWFour
import Derived.Test.YtfopdbdamkfglaaWQPut
import Derived.Test.YtfopdbdamkfglaaWApart
import Derived.Test.YtfopdbdamkfglaaWArr
import Derived.Test.YtfopdbdamkfglaaWZeros
import Derived.Test.YtfopdbdamkfglaaWFoot
import Derived.Test.YtfopdbdamkfglaaWKept
import Derived.Test.YtfopdbdamkfglaaWShare
import Derived.Test.YtfopdbdamkfglaaWN
import Derived.Test.YtfopdbdamkfglaaWFootNe
import Derived.Test.YtfopdbdamkfglaaWAt
import Derived.Test.YtfopdbdamkfglaaWEqStruct
import Derived.Test.YtfopdbdamkfglaaWRepsOne
import Derived.Test.YtfopdbdamkfglaaWInv
import Derived.Test.YtfopdbdamkfglaaWInvWords
import Derived.Test.YtfopdbdamkfglaaWGuard
import Derived.Test.YtfopdbdamkfglaaWNEv
import Derived.Test.YtfopdbdamkfglaaWMore
import Derived.Test.YtfopdbdamkfglaaWFl
namespace Go.Proofs.Ytfopdbdamkfglaa.QFnExactFly
open Go.RowKit Go.Proofs.YtfopdbdamkfglaaW.PrintWords Go.Proofs.YtfopdbdamkfglaaW.PrintLast Go.Proofs.YtfopdbdamkfglaaW.PrintMore
attribute [local go_sem] max2_int min2_int max_two min_two max_three min_three max_four min_four   -- for this text's walks alone
attribute [local go_sem high] go_eql go_neq go_lss go_leq go_gtr go_geq go_store   -- for this text's walks alone
set_option linter.unusedVariables false
set_option linter.unusedSimpArgs false



def errW : Option Int → Value
  | none => .nilIface
  | some c => .iface 0 (.int .i64 c)
theorem errW_none : errW none = .nilIface := rfl
theorem errW_some (c : Int) : errW (some c) = .iface 0 (.int .i64 c) := rfl

theorem info23 : (Try.prog.info? 23).map (fun i => (i.zero, i.size, i.bytes)) = some (some (.float .f64 0), 1, 8) := by kernel_rfl
theorem info66 : (Try.prog.info? 66).map (fun i => (i.zero, i.size, i.bytes)) = some (some (.agg #[(.float .f64 0), (.float .f64 0), (.float .f64 0), (.float .f64 0)]), 4, 32) := by kernel_rfl
-- the values' own types
/-! #### struct type 66 -/
structure S66 where
  f0 : Fl
  f1 : Fl
  f2 : Fl
  f3 : Fl
def z66 : S66 := ⟨(cn .f64 0), (cn .f64 0), (cn .f64 0), (cn .f64 0)⟩
def k66 : Kd S66 := Kd.iso (Kd.pair (Kd.fl .f64) (Kd.pair (Kd.fl .f64) (Kd.pair (Kd.fl .f64) (Kd.fl .f64)))) (fun x : S66 => (x.f0, x.f1, x.f2, x.f3))
theorem k66_open {w : World} {x : S66} {cs : List Value} (h : k66.K w x cs) : ∃ b0 b1 b2 b3, cs = [.float .f64 b0, .float .f64 b1, .float .f64 b2, .float .f64 b3] ∧ cn .f64 b0 = x.f0 ∧ cn .f64 b1 = x.f1 ∧ cn .f64 b2 = x.f2 ∧ cn .f64 b3 = x.f3 := by
  obtain ⟨_, _, rfl, ⟨b0, rfl, hF0⟩, ⟨_, _, rfl, ⟨b1, rfl, hF1⟩, ⟨_, _, rfl, ⟨b2, rfl, hF2⟩, ⟨b3, rfl, hF3⟩⟩⟩⟩ := h
  exact ⟨b0, b1, b2, b3, rfl, hF0, hF1, hF2, hF3⟩
theorem k66_openM {w : World} {base : Nat} {ok : Nat → Prop} {x : S66} {cs : List Value} (h : k66.M w base ok x cs) : ∃ b0 b1 b2 b3, cs = [.float .f64 b0, .float .f64 b1, .float .f64 b2, .float .f64 b3] ∧ cn .f64 b0 = x.f0 ∧ cn .f64 b1 = x.f1 ∧ cn .f64 b2 = x.f2 ∧ cn .f64 b3 = x.f3 := by
  obtain ⟨_, _, rfl, ⟨b0, rfl, hF0⟩, ⟨_, _, rfl, ⟨b1, rfl, hF1⟩, ⟨_, _, rfl, ⟨b2, rfl, hF2⟩, ⟨b3, rfl, hF3⟩⟩⟩⟩ := h
  exact ⟨b0, b1, b2, b3, rfl, hF0, hF1, hF2, hF3⟩
theorem k66_mk (w : World) (x : S66)  {b0 : Nat} (hF0 : cn .f64 b0 = x.f0) {b1 : Nat} (hF1 : cn .f64 b1 = x.f1) {b2 : Nat} (hF2 : cn .f64 b2 = x.f2) {b3 : Nat} (hF3 : cn .f64 b3 = x.f3) : k66.K w x [.float .f64 b0, .float .f64 b1, .float .f64 b2, .float .f64 b3] := ⟨[.float .f64 b0], [.float .f64 b1, .float .f64 b2, .float .f64 b3], rfl, ⟨b0, rfl, hF0⟩, ⟨[.float .f64 b1], [.float .f64 b2, .float .f64 b3], rfl, ⟨b1, rfl, hF1⟩, ⟨[.float .f64 b2], [.float .f64 b3], rfl, ⟨b2, rfl, hF2⟩, ⟨b3, rfl, hF3⟩⟩⟩⟩
theorem k66_mkM (w : World) (base : Nat) (ok : Nat → Prop) (x : S66)  {b0 : Nat} (hF0 : cn .f64 b0 = x.f0) {b1 : Nat} (hF1 : cn .f64 b1 = x.f1) {b2 : Nat} (hF2 : cn .f64 b2 = x.f2) {b3 : Nat} (hF3 : cn .f64 b3 = x.f3) : k66.M w base ok x [.float .f64 b0, .float .f64 b1, .float .f64 b2, .float .f64 b3] := ⟨[.float .f64 b0], [.float .f64 b1, .float .f64 b2, .float .f64 b3], rfl, ⟨b0, rfl, hF0⟩, ⟨[.float .f64 b1], [.float .f64 b2, .float .f64 b3], rfl, ⟨b1, rfl, hF1⟩, ⟨[.float .f64 b2], [.float .f64 b3], rfl, ⟨b2, rfl, hF2⟩, ⟨b3, rfl, hF3⟩⟩⟩⟩
def rd_T66 (xs : List S66) (i : Int) : S66 := xs.getD i.toNat z66
theorem at_T66 {w : World} {A : Option Addr} {n : Nat} {xs : List S66} (h : Kd.C k66 w A n xs) (i : Int) (h0 : 0 ≤ i) (h1 : i < n) : ∃ ad b0 b1 b2 b3, A = some ad ∧ w.cell? (ad.add (i.toNat * 4)) = some (.float .f64 b0) ∧ w.cell? ⟨(ad.add (i.toNat * 4)).block, (ad.add (i.toNat * 4)).off + 1, none⟩ = some (.float .f64 b1) ∧ w.cell? ⟨(ad.add (i.toNat * 4)).block, (ad.add (i.toNat * 4)).off + 2, none⟩ = some (.float .f64 b2) ∧ w.cell? ⟨(ad.add (i.toNat * 4)).block, (ad.add (i.toNat * 4)).off + 3, none⟩ = some (.float .f64 b3) ∧ cn .f64 b0 = (rd_T66 xs i).f0 ∧ cn .f64 b1 = (rd_T66 xs i).f1 ∧ cn .f64 b2 = (rd_T66 xs i).f2 ∧ cn .f64 b3 = (rd_T66 xs i).f3 := by
  obtain ⟨ad, c, e, _, hK, hc0⟩ := Kd.C_get h z66 i h0 h1
  have hc : ∀ j u, c[j]? = some u → w.cell? (ad.add (i.toNat * 4 + j)) = some u := hc0
  obtain ⟨b0, b1, b2, b3, rfl, hF0, hF1, hF2, hF3⟩ := k66_open hK
  exact ⟨ad, b0, b1, b2, b3, e, hc 0 _ rfl, by rw [← add_field _ _ 1 (by omega)]; exact hc 1 _ rfl, by rw [← add_field _ _ 2 (by omega)]; exact hc 2 _ rfl, by rw [← add_field _ _ 3 (by omega)]; exact hc 3 _ rfl, hF0, hF1, hF2, hF3⟩

end Go.Proofs.Ytfopdbdamkfglaa.QFnExactFly
