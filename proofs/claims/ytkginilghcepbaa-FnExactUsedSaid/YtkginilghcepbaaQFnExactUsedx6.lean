/- Lean functions that tell what the Go functions used by one law answer, and for each a proof that the Go code comes to just these answers; no condition. Printed by this session's own program over the kit's printer. -/
import Derived.Test.YtkginilghcepbaaWSq
import Derived.Lib.BitFns
import Derived.Laws.MathBits
import Derived.Test.YtkginilghcepbaaQFnExactUsedx0
import Derived.Test.YtkginilghcepbaaQFnExactUsedx4
namespace Go.Proofs.Ytkginilghcepbaa.QFnExactUsed
open Go.RowKit Go.Proofs.YtkginilghcepbaaW.PrintWords Go.Proofs.YtkginilghcepbaaW.PrintLast Go.Proofs.YtkginilghcepbaaW.PrintMore
attribute [local go_sem] max2_int min2_int max_two min_two max_three min_three max_four min_four   -- for this text's walks alone
attribute [local go_sem high] go_eql go_neq go_lss go_leq go_gtr go_geq go_store   -- for this text's walks alone
set_option linter.unusedVariables false
set_option linter.unusedSimpArgs false

/-! ### impl_allIn: function 55 -/
def impl_allIn.l0 : Nat → Int → Int → List Int → Int → Int → Option (Bool)
 | 0, _, _, _, _, _ => none
 | k + 1, x1, x2, x9, c2, b5 => if b5 < c2 then (if 0 ≤ b5 then (if b5 < (x9.length : Int) then ((impl_in.f (rd x9 b5) x1 x2).bind fun b3 => (if b3 = true then (impl_allIn.l0 k x1 x2 x9 c2 (wrap64 (b5 + 1))) else (some false))) else (none)) else (none)) else (some true)
def impl_allIn.f (k : Nat) (l0 : List Int) (a1 : Int) (a2 : Int) : Option (Bool) := impl_allIn.l0 k a1 a2 l0 (l0.length : Int) 0
theorem impl_allIn.mono_l : ∀ k, (∀ y0 y1 y2 y3 y4, LeO (impl_allIn.l0 k y0 y1 y2 y3 y4) (impl_allIn.l0 (k + 1) y0 y1 y2 y3 y4))
 | 0 => fun _ _ _ _ _ r h => by simp [impl_allIn.l0] at h
 | k + 1 => by
  have a8 := impl_allIn.mono_l k
  ·intro y0 y1 y2 y3 y4
   unfold impl_allIn.l0
   repeat' first
   | (with_reducible exact a8 _ _ _ _ _)
   | (with_reducible exact LeO.refl _)
   | (with_reducible exact LeO.none _)
   | (with_reducible refine LeO.ite ?_ ?_)
   | (with_reducible refine LeO.bind ?_ (fun _ => ?_))
   | exact a8 _ _ _ _ _
   | exact LeO.none _
   | refine LeO.ite ?_ ?_
   | refine LeO.bind ?_ (fun _ => ?_)
theorem impl_allIn.mono : ∀ a0 a1 a2 k, LeO (impl_allIn.f k a0 a1 a2) (impl_allIn.f (k + 1) a0 a1 a2) := by
 intro a0 a1 a2 k
 have a8 := impl_allIn.mono_l k
 unfold impl_allIn.f
 repeat' first
   | (with_reducible exact a8 _ _ _ _ _)
   | (with_reducible exact LeO.refl _)
   | (with_reducible exact LeO.none _)
   | (with_reducible refine LeO.ite ?_ ?_)
   | (with_reducible refine LeO.bind ?_ (fun _ => ?_))
   | exact a8 _ _ _ _ _
   | exact LeO.none _
   | refine LeO.ite ?_ ?_
   | refine LeO.bind ?_ (fun _ => ?_)
set_option maxHeartbeats 8000000 in
set_option maxRecDepth 100000 in
theorem impl_allIn.calls (k : Nat) (A0 : Option Addr) (c0 : Nat) (l0 : List Int) (a1 : Int) (a2 : Int) (r : Bool) (w : World) (hr0 : Kd.C (Kd.int .i64) w A0 l0.length l0) (hc0 : l0.length ≤ c0) (h : impl_allIn.f k l0 a1 a2 = some r) :
  Calls Try.prog 55 #[.slice A0 l0.length c0, .int .i64 a1, .int .i64 a2] w fun e w' => e = .returned (.bool r) ∧ Drawn0 w w' := by
 have c7 := mk_ hr0; have d7 := mk_ hc0; clear hr0 hc0
 have H : (impl_allIn.l0 k a1 a2 l0 (l0.length : Int) 0) = some r := h
 clear h
 have H' := mk_ H
 clear H
 go_enter Try.func55, Try.ntmps55
 go_wp2
 go_loopg [11] k (fun kq v11 w' => ∃ (a3 : Int), v11 = .int .i64 a3 ∧ Aside0 (impl_allIn.l0 kq a1 a2 l0 (l0.length : Int) a3 = some r) ∧ Aside0 (kq ≤ k) ∧ Drawn0 w w')
 case atStart => exact ⟨(0), rf_, H', ⟨Nat.le_refl _⟩, by repeat (first | exact Drawn0.refl _ | apply Drawn0.step)⟩
 case round =>
  clear H'
  obtain ⟨a3, rfl, HA, b6, ⟨m1, rfl⟩⟩ := hrel
  cases gk with
  | zero => exact absurd HA.out (by simp [impl_allIn.l0])
  | succ k1 =>
   have H := HA.out; clear HA
   simp only [impl_allIn.l0] at H
   by_cases c4 : a3 < (l0.length : Int)
   ·rw [if_pos c4] at H; have b8 : decide (a3 < (l0.length : Int)) = true := decide_eq_true c4; clear c4; by_cases c5 : 0 ≤ a3
    ·rw [if_pos c5] at H; have d5 : decide (0 ≤ a3) = true := decide_eq_true c5; clear c5; by_cases c6 : a3 < (l0.length : Int)
     ·rw [if_pos c6] at H; have d6 : decide (a3 < (l0.length : Int)) = true := decide_eq_true c6; clear c6; replace H := Option.bind_eq_some_iff.mp H; obtain ⟨b3, c9, H⟩ := H; (try dsimp only at H); have A7 := mk_ c9; clear c9; by_cases c8 : b3 = true
      ·subst c8; rw [if_pos rfl] at H
       have H' := mk_ H
       clear H
       have a5 : 0 ≤ (a3 : Int) := od_
       have a6 : a3 < (l0.length : Int) := od_
       obtain ⟨b7, b4, b1⟩ := Kd.at_int c7.out a3 a5 a6; cases b4; replace a5 := eq_true a5; replace a6 := eq_true a6
       go_wp2_with (first | ((with_reducible refine gc_ 65 rfl ?_); refine gl_ (some 18) rfl Try.func65 #[.int .i64 (rd l0 a3), .int .i64 a1, .int .i64 a2] ?_; (with_reducible refine (impl_in.calls (rd l0 a3) a1 a2 true _ A7.out).mono ?_); rintro e w' ⟨rfl, ⟨nd, rfl⟩⟩; refine ⟨_, rfl, ?_⟩))
       go_roundg k1
       case measure => have := b6.out; omega
       case rel => exact ⟨(wrap64 (a3 + 1)), rf_, H', ⟨by have := b6.out; omega⟩, by repeat (first | exact Drawn0.refl _ | apply Drawn0.step)⟩
      ·replace c8 := Bool.eq_false_iff.mpr c8; subst c8; rw [if_neg (show ¬ (false = true) by decide)] at H; obtain rfl := Option.some.inj H
       have a5 : 0 ≤ (a3 : Int) := od_
       have a6 : a3 < (l0.length : Int) := od_
       obtain ⟨b7, b4, b1⟩ := Kd.at_int c7.out a3 a5 a6; cases b4; replace a5 := eq_true a5; replace a6 := eq_true a6
       go_wp2_with (first | ((with_reducible refine gc_ 65 rfl ?_); refine gl_ (some 18) rfl Try.func65 #[.int .i64 (rd l0 a3), .int .i64 a1, .int .i64 a2] ?_; (with_reducible refine (impl_in.calls (rd l0 a3) a1 a2 false _ A7.out).mono ?_); rintro e w' ⟨rfl, ⟨nd, rfl⟩⟩; refine ⟨_, rfl, ?_⟩))
       go_ret
       exact ⟨by first | rfl | (simp; done) | (simp [*]; done), by repeat (first | exact Drawn0.refl _ | apply Drawn0.step)⟩
     ·rw [if_neg c6] at H
      exact absurd H (by simp)
    ·rw [if_neg c5] at H
     exact absurd H (by simp)
   ·rw [if_neg c4] at H; have b8 : decide (a3 < (l0.length : Int)) = false := decide_eq_false c4; clear c4; obtain rfl := Option.some.inj H; go_wp2; go_ret
    exact ⟨by first | rfl | (simp; done) | (simp [*]; done), by repeat (first | exact Drawn0.refl _ | apply Drawn0.step)⟩

/-! ### impl_size: function 104 -/
def impl_size.f (a0 : Int) : Option (Int) := some (mx a0 (wrap64 (-a0)))
set_option maxHeartbeats 8000000 in
set_option maxRecDepth 100000 in
theorem impl_size.calls (a0 : Int) (r : Int) (w : World) (h : impl_size.f a0 = some r) :
  Calls Try.prog 104 #[.int .i64 a0] w fun e w' => e = .returned (.int .i64 r) ∧ Below w.heap.size w w' := by
 have HB := mk_ (Below.refl w.heap.size w)
 have H : (some (mx a0 (wrap64 (-a0)))) = some r := h
 clear h
 obtain ⟨d0, b2⟩ : ∃ j_ : Int, (mx a0 (wrap64 (-a0))) = j_ := ⟨_, rfl⟩
 replace H : (some d0) = some r := by first | (rw [b2] at H; exact H) | (simp only [b2] at H ⊢; exact H)
 have d1 : (if a0 < (wrap64 (-a0)) then (wrap64 (-a0)) else a0) = d0 := b2
 obtain rfl := Option.some.inj H
 go_enter Try.func104, Try.ntmps104
 go_wp2; go_ret
 exact ⟨by first | rfl | (simp [errW_none, errW_some] <;> rfl) | (simp only [← b2]; first | rfl | (simp [errW_none, errW_some] <;> rfl)) | (simp [*, errW_none, errW_some] <;> rfl), hw_ HB⟩

/-! ### impl_gcd: function 90 -/
def impl_gcd.l0 : Nat → Int → Int → Option (Int)
 | 0, _, _ => none
 | k + 1, x0, x1 => if x1 = 0 then ((impl_size.f x0).bind fun a9 => (some a9)) else (impl_gcd.l0 k x1 (Int.tmod x0 x1))
def impl_gcd.f (k : Nat) (a0 : Int) (a1 : Int) : Option (Int) := impl_gcd.l0 k a0 a1
theorem impl_gcd.mono_l : ∀ k, (∀ y0 y1, LeO (impl_gcd.l0 k y0 y1) (impl_gcd.l0 (k + 1) y0 y1))
 | 0 => fun _ _ r h => by simp [impl_gcd.l0] at h
 | k + 1 => by
  have a8 := impl_gcd.mono_l k
  ·intro y0 y1
   unfold impl_gcd.l0
   repeat' first
   | (with_reducible exact a8 _ _)
   | (with_reducible exact LeO.refl _)
   | (with_reducible exact LeO.none _)
   | (with_reducible refine LeO.ite ?_ ?_)
   | (with_reducible refine LeO.bind ?_ (fun _ => ?_))
   | exact a8 _ _
   | exact LeO.none _
   | refine LeO.ite ?_ ?_
   | refine LeO.bind ?_ (fun _ => ?_)
theorem impl_gcd.mono : ∀ a0 a1 k, LeO (impl_gcd.f k a0 a1) (impl_gcd.f (k + 1) a0 a1) := by
 intro a0 a1 k
 have a8 := impl_gcd.mono_l k
 unfold impl_gcd.f
 repeat' first
   | (with_reducible exact a8 _ _)
   | (with_reducible exact LeO.refl _)
   | (with_reducible exact LeO.none _)
   | (with_reducible refine LeO.ite ?_ ?_)
   | (with_reducible refine LeO.bind ?_ (fun _ => ?_))
   | exact a8 _ _
   | exact LeO.none _
   | refine LeO.ite ?_ ?_
   | refine LeO.bind ?_ (fun _ => ?_)
set_option maxHeartbeats 8000000 in
set_option maxRecDepth 100000 in
theorem impl_gcd.calls (k : Nat) (a0 : Int) (a1 : Int) (r : Int) (w : World) (h : impl_gcd.f k a0 a1 = some r) :
  Calls Try.prog 90 #[.int .i64 a0, .int .i64 a1] w fun e w' => e = .returned (.int .i64 r) ∧ Below w.heap.size w w' := by
 have HB := mk_ (Below.refl w.heap.size w)
 have H : (impl_gcd.l0 k a0 a1) = some r := h
 clear h
 have H' := mk_ H
 clear H
 go_enter Try.func90, Try.ntmps90
 go_wp2
 repeat (go_quiet (fail); try go_wp2)
 go_loopg [0, 1] k (fun kq v0 v1 w' => ∃ (a7 : Int) (a4 : Int), v0 = .int .i64 a7 ∧ v1 = .int .i64 a4 ∧ Aside0 (impl_gcd.l0 kq a7 a4 = some r) ∧ Aside0 (kq ≤ k) ∧ Aside0 (Below w.heap.size w w'))
 case atStart => exact ⟨(a0), (a1), rf_, rf_, H', ⟨Nat.le_refl _⟩, ⟨hw_ HB⟩⟩
 case round =>
  clear H'
  obtain ⟨a7, a4, rfl, rfl, HA, b6, HB⟩ := hrel
  cases gk with
  | zero => exact absurd HA.out (by simp [impl_gcd.l0])
  | succ k1 =>
   have H := HA.out; clear HA
   simp only [impl_gcd.l0] at H
   by_cases c3 : a4 = 0
   ·rw [if_pos c3] at H; have b9 : (a4 == 0) = true := beq_iff_eq.mpr c3; have c1 : (a4 != 0) = false := bne_eq_false_iff_eq.mpr c3; clear c3; replace H := Option.bind_eq_some_iff.mp H; obtain ⟨a9, d2, H⟩ := H; (try dsimp only at H); have A4 := mk_ d2; clear d2; obtain rfl := Option.some.inj H
    go_wp2_with (first | (go_at_call 104; (with_reducible refine (impl_size.calls a7 a9 _ A4.out).mono ?_); rintro e w5 ⟨rfl, hb⟩; replace HB := hk_ HB hb; (try clear hb); (try clear d3); (try clear hk); (try clear hi)))
    repeat (go_quiet (first | (go_at_call 104; (with_reducible refine (impl_size.calls a7 a9 _ A4.out).mono ?_); rintro e w5 ⟨rfl, hb⟩; replace HB := hk_ HB hb; (try clear hb); (try clear d3); (try clear hk); (try clear hi))); try go_wp2_with (first | (go_at_call 104; (with_reducible refine (impl_size.calls a7 a9 _ A4.out).mono ?_); rintro e w5 ⟨rfl, hb⟩; replace HB := hk_ HB hb; (try clear hb); (try clear d3); (try clear hk); (try clear hi))))
    go_ret
    exact ⟨re_, hw_ HB⟩
   ·rw [if_neg c3] at H; have b9 : (a4 == 0) = false := beq_eq_false_iff_ne.mpr c3; have c1 : (a4 != 0) = true := bne_iff_ne.mpr c3
    have H' := mk_ H
    clear H; go_wp2
    repeat (go_quiet (fail); try go_wp2)
    go_roundg k1
    case measure => have := b6.out; omega
    case rel => exact ⟨(a4), (Int.tmod a7 a4), rf_, rf_, H', ⟨by have := b6.out; omega⟩, ⟨hw_ HB⟩⟩

/-! ### bits_Mul64: function 91 -/
def bits_Mul64.f (a0 : Int) (a1 : Int) : Option (Int × Int) := some (IntKind.u64.wrap ((IntKind.u64.wrap ((IntKind.u64.wrap ((a0 / 4294967296) * (a1 / 4294967296))) + ((IntKind.u64.wrap ((IntKind.u64.wrap ((a0 / 4294967296) * (Go.bits .and .u64 a1 4294967295))) + ((IntKind.u64.wrap ((Go.bits .and .u64 a0 4294967295) * (Go.bits .and .u64 a1 4294967295))) / 4294967296))) / 4294967296))) + ((IntKind.u64.wrap ((Go.bits .and .u64 (IntKind.u64.wrap ((IntKind.u64.wrap ((a0 / 4294967296) * (Go.bits .and .u64 a1 4294967295))) + ((IntKind.u64.wrap ((Go.bits .and .u64 a0 4294967295) * (Go.bits .and .u64 a1 4294967295))) / 4294967296))) 4294967295) + (IntKind.u64.wrap ((Go.bits .and .u64 a0 4294967295) * (a1 / 4294967296))))) / 4294967296)), IntKind.u64.wrap (a0 * a1))
set_option maxHeartbeats 8000000 in
set_option maxRecDepth 100000 in
theorem bits_Mul64.calls (a0 : Int) (a1 : Int) (r1 : Int) (r2 : Int) (w : World) (h : bits_Mul64.f a0 a1 = some (r1, r2)) :
  Calls Try.prog 91 #[.int .u64 a0, .int .u64 a1] w fun e w' => e = .returned (.tuple #[.int .u64 r1, .int .u64 r2]) ∧ Drawn0 w w' := by
 have H : (some (IntKind.u64.wrap ((IntKind.u64.wrap ((IntKind.u64.wrap ((a0 / 4294967296) * (a1 / 4294967296))) + ((IntKind.u64.wrap ((IntKind.u64.wrap ((a0 / 4294967296) * (Go.bits .and .u64 a1 4294967295))) + ((IntKind.u64.wrap ((Go.bits .and .u64 a0 4294967295) * (Go.bits .and .u64 a1 4294967295))) / 4294967296))) / 4294967296))) + ((IntKind.u64.wrap ((Go.bits .and .u64 (IntKind.u64.wrap ((IntKind.u64.wrap ((a0 / 4294967296) * (Go.bits .and .u64 a1 4294967295))) + ((IntKind.u64.wrap ((Go.bits .and .u64 a0 4294967295) * (Go.bits .and .u64 a1 4294967295))) / 4294967296))) 4294967295) + (IntKind.u64.wrap ((Go.bits .and .u64 a0 4294967295) * (a1 / 4294967296))))) / 4294967296)), IntKind.u64.wrap (a0 * a1))) = some (r1, r2) := h
 clear h
 simp only [Option.some.injEq, Prod.mk.injEq] at H
 obtain ⟨rfl, rfl⟩ := H
 go_enter Try.func91, Try.ntmps91
 go_wp2
 go_ret2
 exact ⟨by first | rfl | (simp; done) | (simp [*]; done), by repeat (first | exact Drawn0.refl _ | apply Drawn0.step)⟩

/-! ### bits_Add64: function 92; it has no body; written by hand -/
/-- math/bits.Add64 with no carry handed in. -/
def add64s (x y : Int) : Int := Int.ofNat ((x.toNat + y.toNat) % 18446744073709551616)
def add64c (x y : Int) : Int := Int.ofNat ((x.toNat + y.toNat) / 18446744073709551616)
theorem add64_run {P : Program} {f : FuncId} {fn : Func} (hf : P.funcs[f]? = some fn) (hname : (fn.name == "runtime.NumGoroutine") = false) (hb : fn.body.isNone = true) (hn : Extern.findNext fn = none) (he : Extern.find fn = some add64Entry) (x y : Int) (w : World) :
  (callFunc f #[.int .u64 x, .int .u64 y, .int .u64 0]).run P w = .ok (.value (.tuple #[.int .u64 (add64s x y), .int .u64 (add64c x y)])) w := by
 rw [run_callFunc_extern hf hname hb hn he]
 have h : (add64Entry #[.int .u64 x, .int .u64 y, .int .u64 0]).run P w = .ok (.tuple #[.int .u64 (add64s x y), .int .u64 (add64c x y)]) w := rfl
 rw [h]
 rfl
theorem bits_Add64.run (x y : Int) (w : World) : (callFunc 92 #[.int .u64 x, .int .u64 y, .int .u64 0]).run Try.prog w = .ok (.value (.tuple #[.int .u64 (add64s x y), .int .u64 (add64c x y)])) w := add64_run Try.func92 (by kernel_rfl) (by kernel_rfl) (by kernel_rfl) (by kernel_rfl) x y w

/-! ### bits_Len64: function 108; written by hand, after the kit's own walk over it -/
def bits_Len64.f (a0 : Int) : Option (Int) := if 0 ≤ a0 then (if a0 ≤ 18446744073709551615 then (some (Lib.bitLen a0.toNat : Int)) else none) else none
theorem len8_sum (c : Int) (m n : Nat) (hc : 0 ≤ c ∧ c ≤ 56) (l : m ≤ 8) (s : (n : Int) = c + m) : wrap64 (c + wrap64 (m : Int)) = (n : Int) := by
 unfold wrap64
 omega
theorem len8_alone (m : Nat) (l : m ≤ 8) : wrap64 (wrap64 (m : Int)) = (m : Int) := by
 unfold wrap64
 omega
theorem len8tab_int (i : Int) (h0 : 0 ≤ i) (h1 : i ≤ 255) (h : i.toNat < Lib.len8tab.size) : (((Lib.len8tab[i.toNat]'h).toNat : Nat) : Int) = (Lib.bitLen i.toNat : Int) := by
 have e := Lib.len8_of i h0 h1
 unfold Lib.len8 at e
 rw [getElem?_pos Lib.len8tab i.toNat h] at e
 simpa using e
set_option maxHeartbeats 8000000 in
set_option maxRecDepth 100000 in
theorem bits_Len64.calls (x : Int) (r : Int) (w : World) (h : bits_Len64.f x = some r) :
  Calls Try.prog 108 #[.int .u64 x] w fun e w' => e = .returned (.int .i64 r) ∧ Drawn0 w w' := by
 by_cases h0 : 0 ≤ x
 rotate_left
 ·unfold bits_Len64.f at h
  rw [if_neg h0] at h
  cases h
 by_cases h1 : x ≤ 18446744073709551615
 rotate_left
 ·unfold bits_Len64.f at h
  rw [if_pos h0, if_neg h1] at h
  cases h
 unfold bits_Len64.f at h
 rw [if_pos h0, if_pos h1] at h
 obtain rfl := Option.some.inj h
 clear h
 have hS := Try.underlying9
 go_enter Try.func108, Try.ntmps108
 go_wp2
 all_goals have hz := Lib.len8tab_size
 all_goals first
  | (exfalso; omega)
  | (go_ret; refine ⟨congrArg Ending.returned (congrArg (Value.int IntKind.i64) ?_), Drawn0.refl _⟩)
 all_goals first
  | (rw [len8tab_int (x / 4294967296 / 65536 / 256) (by omega) (by omega)]; have e : (x / 4294967296 / 65536 / 256).toNat = x.toNat / 72057594037927936 := (by omega); have l := Lib.bitLen_le8' (x / 4294967296 / 65536 / 256) (by omega) (by omega); have s := Lib.bitLen_shift56 x.toNat (by omega) (by omega); rw [e] at l ⊢; exact len8_sum 56 _ _ (by decide) l (by rw [s]; rfl))
  | (rw [len8tab_int (x / 4294967296 / 65536) (by omega) (by omega)]; have e : (x / 4294967296 / 65536).toNat = x.toNat / 281474976710656 := (by omega); have l := Lib.bitLen_le8' (x / 4294967296 / 65536) (by omega) (by omega); have s := Lib.bitLen_shift48 x.toNat (by omega) (by omega); rw [e] at l ⊢; exact len8_sum 48 _ _ (by decide) l (by rw [s]; rfl))
  | (rw [len8tab_int (x / 4294967296 / 256) (by omega) (by omega)]; have e : (x / 4294967296 / 256).toNat = x.toNat / 1099511627776 := (by omega); have l := Lib.bitLen_le8' (x / 4294967296 / 256) (by omega) (by omega); have s := Lib.bitLen_shift40 x.toNat (by omega) (by omega); rw [e] at l ⊢; exact len8_sum 40 _ _ (by decide) l (by rw [s]; rfl))
  | (rw [len8tab_int (x / 4294967296) (by omega) (by omega)]; have e : (x / 4294967296).toNat = x.toNat / 4294967296 := (by omega); have l := Lib.bitLen_le8' (x / 4294967296) (by omega) (by omega); have s := Lib.bitLen_shift32 x.toNat (by omega) (by omega); rw [e] at l ⊢; exact len8_sum 32 _ _ (by decide) l (by rw [s]; rfl))
  | (rw [len8tab_int (x / 65536 / 256) (by omega) (by omega)]; have e : (x / 65536 / 256).toNat = x.toNat / 16777216 := (by omega); have l := Lib.bitLen_le8' (x / 65536 / 256) (by omega) (by omega); have s := Lib.bitLen_shift24 x.toNat (by omega) (by omega); rw [e] at l ⊢; exact len8_sum 24 _ _ (by decide) l (by rw [s]; rfl))
  | (rw [len8tab_int (x / 65536) (by omega) (by omega)]; have e : (x / 65536).toNat = x.toNat / 65536 := (by omega); have l := Lib.bitLen_le8' (x / 65536) (by omega) (by omega); have s := Lib.bitLen_shift16 x.toNat (by omega) (by omega); rw [e] at l ⊢; exact len8_sum 16 _ _ (by decide) l (by rw [s]; rfl))
  | (rw [len8tab_int (x / 256) (by omega) (by omega)]; have e : (x / 256).toNat = x.toNat / 256 := (by omega); have l := Lib.bitLen_le8' (x / 256) (by omega) (by omega); have s := Lib.bitLen_shift8 x.toNat (by omega) (by omega); rw [e] at l ⊢; exact len8_sum 8 _ _ (by decide) l (by rw [s]; rfl))
  | (rw [len8tab_int x (by omega) (by omega)]; have l := Lib.bitLen_le8' x (by omega) (by omega); exact len8_alone _ l)

/-! ### bits_LeadingZeros64: function 105 -/
def bits_LeadingZeros64.f (a0 : Int) : Option (Int) := (bits_Len64.f a0).bind fun b0 => (some (wrap64 (64 - b0)))
set_option maxHeartbeats 8000000 in
set_option maxRecDepth 100000 in
theorem bits_LeadingZeros64.calls (a0 : Int) (r : Int) (w : World) (h : bits_LeadingZeros64.f a0 = some r) :
  Calls Try.prog 105 #[.int .u64 a0] w fun e w' => e = .returned (.int .i64 r) ∧ Drawn0 w w' := by
 have H : ((bits_Len64.f a0).bind fun b0 => (some (wrap64 (64 - b0)))) = some r := h
 clear h; replace H := Option.bind_eq_some_iff.mp H; obtain ⟨b0, d4, H⟩ := H; (try dsimp only at H); have A2 := mk_ d4; clear d4; obtain rfl := Option.some.inj H
 go_enter Try.func105, Try.ntmps105
 go_wp2_with (first | ((with_reducible refine gc_ 108 rfl ?_); refine gl_ (some 4) rfl Try.func108 #[.int .u64 a0] ?_; (with_reducible refine (bits_Len64.calls a0 b0 _ A2.out).mono ?_); rintro e w' ⟨rfl, ⟨nd, rfl⟩⟩; refine ⟨_, rfl, ?_⟩))
 go_ret
 exact ⟨by first | rfl | (simp; done) | (simp [*]; done), by repeat (first | exact Drawn0.refl _ | apply Drawn0.step)⟩

end Go.Proofs.Ytkginilghcepbaa.QFnExactUsed
-- squeezed
