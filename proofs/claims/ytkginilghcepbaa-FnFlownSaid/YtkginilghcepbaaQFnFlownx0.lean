/- Lean functions that tell what the Go functions used by one law answer, and for each a proof that the Go code comes to just these answers; no condition. Printed by this session's own program over the kit's printer. -/
import Derived.Test.YtkginilghcepbaaWSq
import Derived.Test.YtkginilghcepbaaProg
import Derived.Below
import Derived.Deep.Draws
import Derived.Deep.AppendLies
import Derived.Maps.AppendAt
import Derived.OwnWalk
import Derived.Laws.BytesArg
import Derived.Laws.MakeOwn
import Derived.Laws.OwnMore
import Derived.Deep.OwnRows
import Derived.Tactics
import Derived.Lib.ConvBytes
import Derived.Laws.Slices
import Derived.WalkKit
import Derived.KernelRfl
import Derived.RowKit3
import Derived.Deep.LoopGhost
import Derived.Deep.QuietTactic
import Derived.BigQuiet
import Derived.WideLaws
import Derived.Deep.DeepCutAuto
import Derived.Deep.CutBlock
import Derived.Deep.RegionHeld3
import Derived.Laws.Rows
import Derived.Lib.AppendStr
import Derived.ArgAppend
import Derived.Laws.IdiomCopy
import Derived.OrdersHeld
import Derived.Laws.BitsLemmas
import Derived.RowKit
import Derived.Test.YtkginilghcepbaaWWords
import Derived.Test.YtkginilghcepbaaWLast
import Derived.Test.YtkginilghcepbaaWTab
import Derived.Test.YtkginilghcepbaaWFour
import Derived.Test.YtkginilghcepbaaWQPut
import Derived.Test.YtkginilghcepbaaWApart
import Derived.Test.YtkginilghcepbaaWArr
import Derived.Test.YtkginilghcepbaaWZeros
import Derived.Test.YtkginilghcepbaaWFoot
import Derived.Test.YtkginilghcepbaaWKept
import Derived.Test.YtkginilghcepbaaWShare
import Derived.Test.YtkginilghcepbaaWN
import Derived.Test.YtkginilghcepbaaWFootNe
import Derived.Test.YtkginilghcepbaaWAt
import Derived.Test.YtkginilghcepbaaWEqStruct
import Derived.Test.YtkginilghcepbaaWRepsOne
import Derived.Test.YtkginilghcepbaaWInv
import Derived.Test.YtkginilghcepbaaWInvWords
import Derived.Test.YtkginilghcepbaaWGuard
import Derived.Test.YtkginilghcepbaaWNEv
import Derived.Test.YtkginilghcepbaaWMore
import Derived.Test.YtkginilghcepbaaWFl
namespace Go.Proofs.Ytkginilghcepbaa.QFnFlown
open Go.RowKit Go.Proofs.YtkginilghcepbaaW.PrintWords Go.Proofs.YtkginilghcepbaaW.PrintLast Go.Proofs.YtkginilghcepbaaW.PrintMore
attribute [local go_sem] max2_int min2_int max_two min_two max_three min_three max_four min_four   -- for this text's walks alone
attribute [local go_sem high] go_eql go_neq go_lss go_leq go_gtr go_geq go_store   -- for this text's walks alone
set_option linter.unusedVariables false
set_option linter.unusedSimpArgs false



def errW : Option Int → Value
 | none => .nilIface
 | some c => .iface 0 (.int .i64 c)
theorem errW_none : errW none = .nilIface := rfl
theorem errW_some (c : Int) : errW (some c) = .iface 0 (.int .i64 c) := rfl

theorem info36 : (Try.prog.info? 36).map (fun i => (i.zero, i.size, i.bytes)) = some (some (.float .f64 0), 1, 8) := by kernel_rfl
theorem info60 : (Try.prog.info? 60).map (fun i => (i.zero, i.size, i.bytes)) = some (some (.agg #[(.float .f64 0), (.float .f64 0), (.float .f64 0), (.float .f64 0)]), 4, 32) := by kernel_rfl
-- the values' own types
/-! #### struct type 60 -/
structure S60 where
 f0 : Fl
 f1 : Fl
 f2 : Fl
 f3 : Fl
def z60 : S60 := ⟨(cn .f64 0), (cn .f64 0), (cn .f64 0), (cn .f64 0)⟩
def k60 : Kd S60 := Kd.iso (Kd.pair (Kd.fl .f64) (Kd.pair (Kd.fl .f64) (Kd.pair (Kd.fl .f64) (Kd.fl .f64)))) (fun x : S60 => (x.f0, x.f1, x.f2, x.f3))
theorem k60_open {w : World} {x : S60} {cs : List Value} (h : k60.K w x cs) : ∃ b0 b1 b2 b3, cs = [.float .f64 b0, .float .f64 b1, .float .f64 b2, .float .f64 b3] ∧ cn .f64 b0 = x.f0 ∧ cn .f64 b1 = x.f1 ∧ cn .f64 b2 = x.f2 ∧ cn .f64 b3 = x.f3 := by
 obtain ⟨_, _, rfl, ⟨b0, rfl, hF0⟩, ⟨_, _, rfl, ⟨b1, rfl, hF1⟩, ⟨_, _, rfl, ⟨b2, rfl, hF2⟩, ⟨b3, rfl, hF3⟩⟩⟩⟩ := h
 exact ⟨b0, b1, b2, b3, rfl, hF0, hF1, hF2, hF3⟩
theorem k60_openM {w : World} {base : Nat} {ok : Nat → Prop} {x : S60} {cs : List Value} (h : k60.M w base ok x cs) : ∃ b0 b1 b2 b3, cs = [.float .f64 b0, .float .f64 b1, .float .f64 b2, .float .f64 b3] ∧ cn .f64 b0 = x.f0 ∧ cn .f64 b1 = x.f1 ∧ cn .f64 b2 = x.f2 ∧ cn .f64 b3 = x.f3 := by
 obtain ⟨_, _, rfl, ⟨b0, rfl, hF0⟩, ⟨_, _, rfl, ⟨b1, rfl, hF1⟩, ⟨_, _, rfl, ⟨b2, rfl, hF2⟩, ⟨b3, rfl, hF3⟩⟩⟩⟩ := h
 exact ⟨b0, b1, b2, b3, rfl, hF0, hF1, hF2, hF3⟩
theorem k60_mk (w : World) (x : S60)  {b0 : Nat} (hF0 : cn .f64 b0 = x.f0) {b1 : Nat} (hF1 : cn .f64 b1 = x.f1) {b2 : Nat} (hF2 : cn .f64 b2 = x.f2) {b3 : Nat} (hF3 : cn .f64 b3 = x.f3) : k60.K w x [.float .f64 b0, .float .f64 b1, .float .f64 b2, .float .f64 b3] := ⟨[.float .f64 b0], [.float .f64 b1, .float .f64 b2, .float .f64 b3], rfl, ⟨b0, rfl, hF0⟩, ⟨[.float .f64 b1], [.float .f64 b2, .float .f64 b3], rfl, ⟨b1, rfl, hF1⟩, ⟨[.float .f64 b2], [.float .f64 b3], rfl, ⟨b2, rfl, hF2⟩, ⟨b3, rfl, hF3⟩⟩⟩⟩
theorem k60_mkM (w : World) (base : Nat) (ok : Nat → Prop) (x : S60)  {b0 : Nat} (hF0 : cn .f64 b0 = x.f0) {b1 : Nat} (hF1 : cn .f64 b1 = x.f1) {b2 : Nat} (hF2 : cn .f64 b2 = x.f2) {b3 : Nat} (hF3 : cn .f64 b3 = x.f3) : k60.M w base ok x [.float .f64 b0, .float .f64 b1, .float .f64 b2, .float .f64 b3] := ⟨[.float .f64 b0], [.float .f64 b1, .float .f64 b2, .float .f64 b3], rfl, ⟨b0, rfl, hF0⟩, ⟨[.float .f64 b1], [.float .f64 b2, .float .f64 b3], rfl, ⟨b1, rfl, hF1⟩, ⟨[.float .f64 b2], [.float .f64 b3], rfl, ⟨b2, rfl, hF2⟩, ⟨b3, rfl, hF3⟩⟩⟩⟩
def rd_T60 (xs : List S60) (i : Int) : S60 := xs.getD i.toNat z60
theorem at_T60 {w : World} {A : Option Addr} {n : Nat} {xs : List S60} (h : Kd.C k60 w A n xs) (i : Int) (h0 : 0 ≤ i) (h1 : i < n) : ∃ ad b0 b1 b2 b3, A = some ad ∧ w.cell? (ad.add (i.toNat * 4)) = some (.float .f64 b0) ∧ w.cell? ⟨(ad.add (i.toNat * 4)).block, (ad.add (i.toNat * 4)).off + 1, none⟩ = some (.float .f64 b1) ∧ w.cell? ⟨(ad.add (i.toNat * 4)).block, (ad.add (i.toNat * 4)).off + 2, none⟩ = some (.float .f64 b2) ∧ w.cell? ⟨(ad.add (i.toNat * 4)).block, (ad.add (i.toNat * 4)).off + 3, none⟩ = some (.float .f64 b3) ∧ cn .f64 b0 = (rd_T60 xs i).f0 ∧ cn .f64 b1 = (rd_T60 xs i).f1 ∧ cn .f64 b2 = (rd_T60 xs i).f2 ∧ cn .f64 b3 = (rd_T60 xs i).f3 := by
 obtain ⟨ad, c, e, _, hK, hc0⟩ := Kd.C_get h z60 i h0 h1
 have hc : ∀ j u, c[j]? = some u → w.cell? (ad.add (i.toNat * 4 + j)) = some u := hc0
 obtain ⟨b0, b1, b2, b3, rfl, hF0, hF1, hF2, hF3⟩ := k60_open hK
 exact ⟨ad, b0, b1, b2, b3, e, hc 0 _ rfl, by rw [← add_field _ _ 1 (by omega)]; exact hc 1 _ rfl, by rw [← add_field _ _ 2 (by omega)]; exact hc 2 _ rfl, by rw [← add_field _ _ 3 (by omega)]; exact hc 3 _ rfl, hF0, hF1, hF2, hF3⟩

end Go.Proofs.Ytkginilghcepbaa.QFnFlown
-- squeezed
