/- Lean functions that tell what the Go functions used by one law answer, and for each a proof that the Go code comes to just these answers; no condition. Printed by this session's own program over the kit's printer. -/
import Derived.Test.YtnphbpkpjinddaaWSq
import Derived.Lib.BitFns
import Derived.Laws.MathBits
import Derived.Test.YtnphbpkpjinddaaQFnCyclesx0
namespace Go.Proofs.Ytnphbpkpjinddaa.QFnCycles
open Go.RowKit Go.Proofs.YtnphbpkpjinddaaW.PrintWords Go.Proofs.YtnphbpkpjinddaaW.PrintLast Go.Proofs.YtnphbpkpjinddaaW.PrintMore
attribute [local go_sem] max2_int min2_int max_two min_two max_three min_three max_four min_four   -- for this text's walks alone
attribute [local go_sem high] go_eql go_neq go_lss go_leq go_gtr go_geq go_store   -- for this text's walks alone
set_option linter.unusedVariables false
set_option linter.unusedSimpArgs false

/-! ### impl_size: function 129 -/
def impl_size.f (a0 : Int) : Option (Int) := some (mx a0 (wrap64 (-a0)))
set_option maxHeartbeats 8000000 in
set_option maxRecDepth 100000 in
theorem impl_size.calls (a0 : Int) (r : Int) (w : World) (h : impl_size.f a0 = some r) :
  Calls Try.prog 129 #[.int .i64 a0] w fun e w' => e = .returned (.int .i64 r) ∧ Below w.heap.size w w' := by
 have HB := mk_ (Below.refl w.heap.size w)
 have H : (some (mx a0 (wrap64 (-a0)))) = some r := h
 clear h
 obtain ⟨o5, j6⟩ : ∃ j_ : Int, (mx a0 (wrap64 (-a0))) = j_ := ⟨_, rfl⟩
 replace H : (some o5) = some r := by first | (rw [j6] at H; exact H) | (simp only [j6] at H ⊢; exact H)
 have o6 : (if a0 < (wrap64 (-a0)) then (wrap64 (-a0)) else a0) = o5 := j6
 obtain rfl := Option.some.inj H
 go_enter Try.func129, Try.ntmps129
 go_wp2; go_ret
 exact ⟨by first | rfl | (simp [errW_none, errW_some] <;> rfl) | (simp only [← j6]; first | rfl | (simp [errW_none, errW_some] <;> rfl)) | (simp [*, errW_none, errW_some] <;> rfl), hw_ HB⟩

/-! ### impl_gcd: function 120 -/
def impl_gcd.l0 : Nat → Int → Int → Option (Int)
 | 0, _, _ => none
 | k + 1, x0, x1 => if x1 = 0 then ((impl_size.f x0).bind fun h3 => (some h3)) else (impl_gcd.l0 k x1 (Int.tmod x0 x1))
def impl_gcd.f (k : Nat) (a0 : Int) (a1 : Int) : Option (Int) := impl_gcd.l0 k a0 a1
theorem impl_gcd.mono_l : ∀ k, (∀ y0 y1, LeO (impl_gcd.l0 k y0 y1) (impl_gcd.l0 (k + 1) y0 y1))
 | 0 => fun _ _ r h => by simp [impl_gcd.l0] at h
 | k + 1 => by
  have c2 := impl_gcd.mono_l k
  ·intro y0 y1
   unfold impl_gcd.l0
   repeat' first
   | (with_reducible exact c2 _ _)
   | (with_reducible exact LeO.refl _)
   | (with_reducible exact LeO.none _)
   | (with_reducible refine LeO.ite ?_ ?_)
   | (with_reducible refine LeO.bind ?_ (fun _ => ?_))
   | exact c2 _ _
   | exact LeO.none _
   | refine LeO.ite ?_ ?_
   | refine LeO.bind ?_ (fun _ => ?_)
theorem impl_gcd.mono : ∀ a0 a1 k, LeO (impl_gcd.f k a0 a1) (impl_gcd.f (k + 1) a0 a1) := by
 intro a0 a1 k
 have c2 := impl_gcd.mono_l k
 unfold impl_gcd.f
 repeat' first
   | (with_reducible exact c2 _ _)
   | (with_reducible exact LeO.refl _)
   | (with_reducible exact LeO.none _)
   | (with_reducible refine LeO.ite ?_ ?_)
   | (with_reducible refine LeO.bind ?_ (fun _ => ?_))
   | exact c2 _ _
   | exact LeO.none _
   | refine LeO.ite ?_ ?_
   | refine LeO.bind ?_ (fun _ => ?_)
set_option maxHeartbeats 8000000 in
set_option maxRecDepth 100000 in
theorem impl_gcd.calls (k : Nat) (a0 : Int) (a1 : Int) (r : Int) (w : World) (h : impl_gcd.f k a0 a1 = some r) :
  Calls Try.prog 120 #[.int .i64 a0, .int .i64 a1] w fun e w' => e = .returned (.int .i64 r) ∧ Below w.heap.size w w' := by
 have HB := mk_ (Below.refl w.heap.size w)
 have H : (impl_gcd.l0 k a0 a1) = some r := h
 clear h
 have H' := mk_ H
 clear H
 go_enter Try.func120, Try.ntmps120
 go_wp2
 repeat (go_quiet (fail); try go_wp2)
 go_loopg [0, 1] k (fun kq v0 v1 w' => ∃ (d9 : Int) (c0 : Int), v0 = .int .i64 d9 ∧ v1 = .int .i64 c0 ∧ Aside0 (impl_gcd.l0 kq d9 c0 = some r) ∧ Aside0 (kq ≤ k) ∧ Aside0 (Below w.heap.size w w'))
 case atStart => exact ⟨(a0), (a1), rf_, rf_, H', ⟨Nat.le_refl _⟩, ⟨hw_ HB⟩⟩
 case round =>
  clear H'
  obtain ⟨d9, c0, rfl, rfl, HA, j7, HB⟩ := hrel
  cases gk with
  | zero => exact absurd HA.out (by simp [impl_gcd.l0])
  | succ k1 =>
   have H := HA.out; clear HA
   simp only [impl_gcd.l0] at H
   by_cases c3 : c0 = 0
   ·rw [if_pos c3] at H; have n4 : (c0 == 0) = true := beq_iff_eq.mpr c3; have n5 : (c0 != 0) = false := bne_eq_false_iff_eq.mpr c3; clear c3; replace H := Option.bind_eq_some_iff.mp H; obtain ⟨h3, o7, H⟩ := H; (try dsimp only at H); have A4 := mk_ o7; clear o7; obtain rfl := Option.some.inj H
    go_wp2_with (first | (go_at_call 129; (with_reducible refine (impl_size.calls d9 h3 _ A4.out).mono ?_); rintro e w5 ⟨rfl, hb⟩; replace HB := hk_ HB hb; (try clear hb); (try clear o8); (try clear hk); (try clear hi)))
    repeat (go_quiet (first | (go_at_call 129; (with_reducible refine (impl_size.calls d9 h3 _ A4.out).mono ?_); rintro e w5 ⟨rfl, hb⟩; replace HB := hk_ HB hb; (try clear hb); (try clear o8); (try clear hk); (try clear hi))); try go_wp2_with (first | (go_at_call 129; (with_reducible refine (impl_size.calls d9 h3 _ A4.out).mono ?_); rintro e w5 ⟨rfl, hb⟩; replace HB := hk_ HB hb; (try clear hb); (try clear o8); (try clear hk); (try clear hi))))
    go_ret
    exact ⟨re_, hw_ HB⟩
   ·rw [if_neg c3] at H; have n4 : (c0 == 0) = false := beq_eq_false_iff_ne.mpr c3; have n5 : (c0 != 0) = true := bne_iff_ne.mpr c3
    have H' := mk_ H
    clear H; go_wp2
    repeat (go_quiet (fail); try go_wp2)
    go_roundg k1
    case measure => have := j7.out; omega
    case rel => exact ⟨(c0), (Int.tmod d9 c0), rf_, rf_, H', ⟨by have := j7.out; omega⟩, ⟨hw_ HB⟩⟩

/-! ### bits_Mul64: function 125 -/
def bits_Mul64.f (a0 : Int) (a1 : Int) : Option (Int × Int) := some (IntKind.u64.wrap ((IntKind.u64.wrap ((IntKind.u64.wrap ((a0 / 4294967296) * (a1 / 4294967296))) + ((IntKind.u64.wrap ((IntKind.u64.wrap ((a0 / 4294967296) * (Go.bits .and .u64 a1 4294967295))) + ((IntKind.u64.wrap ((Go.bits .and .u64 a0 4294967295) * (Go.bits .and .u64 a1 4294967295))) / 4294967296))) / 4294967296))) + ((IntKind.u64.wrap ((Go.bits .and .u64 (IntKind.u64.wrap ((IntKind.u64.wrap ((a0 / 4294967296) * (Go.bits .and .u64 a1 4294967295))) + ((IntKind.u64.wrap ((Go.bits .and .u64 a0 4294967295) * (Go.bits .and .u64 a1 4294967295))) / 4294967296))) 4294967295) + (IntKind.u64.wrap ((Go.bits .and .u64 a0 4294967295) * (a1 / 4294967296))))) / 4294967296)), IntKind.u64.wrap (a0 * a1))
set_option maxHeartbeats 8000000 in
set_option maxRecDepth 100000 in
theorem bits_Mul64.calls (a0 : Int) (a1 : Int) (r1 : Int) (r2 : Int) (w : World) (h : bits_Mul64.f a0 a1 = some (r1, r2)) :
  Calls Try.prog 125 #[.int .u64 a0, .int .u64 a1] w fun e w' => e = .returned (.tuple #[.int .u64 r1, .int .u64 r2]) ∧ Drawn0 w w' := by
 have H : (some (IntKind.u64.wrap ((IntKind.u64.wrap ((IntKind.u64.wrap ((a0 / 4294967296) * (a1 / 4294967296))) + ((IntKind.u64.wrap ((IntKind.u64.wrap ((a0 / 4294967296) * (Go.bits .and .u64 a1 4294967295))) + ((IntKind.u64.wrap ((Go.bits .and .u64 a0 4294967295) * (Go.bits .and .u64 a1 4294967295))) / 4294967296))) / 4294967296))) + ((IntKind.u64.wrap ((Go.bits .and .u64 (IntKind.u64.wrap ((IntKind.u64.wrap ((a0 / 4294967296) * (Go.bits .and .u64 a1 4294967295))) + ((IntKind.u64.wrap ((Go.bits .and .u64 a0 4294967295) * (Go.bits .and .u64 a1 4294967295))) / 4294967296))) 4294967295) + (IntKind.u64.wrap ((Go.bits .and .u64 a0 4294967295) * (a1 / 4294967296))))) / 4294967296)), IntKind.u64.wrap (a0 * a1))) = some (r1, r2) := h
 clear h
 simp only [Option.some.injEq, Prod.mk.injEq] at H
 obtain ⟨rfl, rfl⟩ := H
 go_enter Try.func125, Try.ntmps125
 go_wp2
 go_ret2
 exact ⟨by first | rfl | (simp; done) | (simp [*]; done), by repeat (first | exact Drawn0.refl _ | apply Drawn0.step)⟩

/-! ### bits_Add64: function 126; it has no body; written by hand -/
/-- math/bits.Add64 with no carry handed in. -/
def add64s (x y : Int) : Int := Int.ofNat ((x.toNat + y.toNat) % 18446744073709551616)
def add64c (x y : Int) : Int := Int.ofNat ((x.toNat + y.toNat) / 18446744073709551616)
theorem add64_run {P : Program} {f : FuncId} {fn : Func} (hf : P.funcs[f]? = some fn) (hname : (fn.name == "runtime.NumGoroutine") = false) (hb : fn.body.isNone = true) (hn : Extern.findNext fn = none) (he : Extern.find fn = some add64Entry) (x y : Int) (w : World) :
  (callFunc f #[.int .u64 x, .int .u64 y, .int .u64 0]).run P w = .ok (.value (.tuple #[.int .u64 (add64s x y), .int .u64 (add64c x y)])) w := by
 rw [run_callFunc_extern hf hname hb hn he]
 have h : (add64Entry #[.int .u64 x, .int .u64 y, .int .u64 0]).run P w = .ok (.tuple #[.int .u64 (add64s x y), .int .u64 (add64c x y)]) w := rfl
 rw [h]
 rfl
theorem bits_Add64.run (x y : Int) (w : World) : (callFunc 126 #[.int .u64 x, .int .u64 y, .int .u64 0]).run Try.prog w = .ok (.value (.tuple #[.int .u64 (add64s x y), .int .u64 (add64c x y)])) w := add64_run Try.func126 (by kernel_rfl) (by kernel_rfl) (by kernel_rfl) (by kernel_rfl) x y w

/-! ### bits_Len64: function 131; written by hand, after the kit's own walk over it -/
def bits_Len64.f (a0 : Int) : Option (Int) := if 0 ≤ a0 then (if a0 ≤ 18446744073709551615 then (some (Lib.bitLen a0.toNat : Int)) else none) else none
theorem len8_sum (c : Int) (m n : Nat) (hc : 0 ≤ c ∧ c ≤ 56) (l : m ≤ 8) (s : (n : Int) = c + m) : wrap64 (c + wrap64 (m : Int)) = (n : Int) := by
 unfold wrap64
 omega
theorem len8_alone (m : Nat) (l : m ≤ 8) : wrap64 (wrap64 (m : Int)) = (m : Int) := by
 unfold wrap64
 omega
theorem len8tab_int (i : Int) (h0 : 0 ≤ i) (h1 : i ≤ 255) (h : i.toNat < Lib.len8tab.size) : (((Lib.len8tab[i.toNat]'h).toNat : Nat) : Int) = (Lib.bitLen i.toNat : Int) := by
 have e := Lib.len8_of i h0 h1
 unfold Lib.len8 at e
 rw [getElem?_pos Lib.len8tab i.toNat h] at e
 simpa using e
set_option maxHeartbeats 8000000 in
set_option maxRecDepth 100000 in
theorem bits_Len64.calls (x : Int) (r : Int) (w : World) (h : bits_Len64.f x = some r) :
  Calls Try.prog 131 #[.int .u64 x] w fun e w' => e = .returned (.int .i64 r) ∧ Drawn0 w w' := by
 by_cases h0 : 0 ≤ x
 rotate_left
 ·unfold bits_Len64.f at h
  rw [if_neg h0] at h
  cases h
 by_cases h1 : x ≤ 18446744073709551615
 rotate_left
 ·unfold bits_Len64.f at h
  rw [if_pos h0, if_neg h1] at h
  cases h
 unfold bits_Len64.f at h
 rw [if_pos h0, if_pos h1] at h
 obtain rfl := Option.some.inj h
 clear h
 have hS := Try.underlying9
 go_enter Try.func131, Try.ntmps131
 go_wp2
 all_goals have hz := Lib.len8tab_size
 all_goals first
  | (exfalso; omega)
  | (go_ret; refine ⟨congrArg Ending.returned (congrArg (Value.int IntKind.i64) ?_), Drawn0.refl _⟩)
 all_goals first
  | (rw [len8tab_int (x / 4294967296 / 65536 / 256) (by omega) (by omega)]; have e : (x / 4294967296 / 65536 / 256).toNat = x.toNat / 72057594037927936 := (by omega); have l := Lib.bitLen_le8' (x / 4294967296 / 65536 / 256) (by omega) (by omega); have s := Lib.bitLen_shift56 x.toNat (by omega) (by omega); rw [e] at l ⊢; exact len8_sum 56 _ _ (by decide) l (by rw [s]; rfl))
  | (rw [len8tab_int (x / 4294967296 / 65536) (by omega) (by omega)]; have e : (x / 4294967296 / 65536).toNat = x.toNat / 281474976710656 := (by omega); have l := Lib.bitLen_le8' (x / 4294967296 / 65536) (by omega) (by omega); have s := Lib.bitLen_shift48 x.toNat (by omega) (by omega); rw [e] at l ⊢; exact len8_sum 48 _ _ (by decide) l (by rw [s]; rfl))
  | (rw [len8tab_int (x / 4294967296 / 256) (by omega) (by omega)]; have e : (x / 4294967296 / 256).toNat = x.toNat / 1099511627776 := (by omega); have l := Lib.bitLen_le8' (x / 4294967296 / 256) (by omega) (by omega); have s := Lib.bitLen_shift40 x.toNat (by omega) (by omega); rw [e] at l ⊢; exact len8_sum 40 _ _ (by decide) l (by rw [s]; rfl))
  | (rw [len8tab_int (x / 4294967296) (by omega) (by omega)]; have e : (x / 4294967296).toNat = x.toNat / 4294967296 := (by omega); have l := Lib.bitLen_le8' (x / 4294967296) (by omega) (by omega); have s := Lib.bitLen_shift32 x.toNat (by omega) (by omega); rw [e] at l ⊢; exact len8_sum 32 _ _ (by decide) l (by rw [s]; rfl))
  | (rw [len8tab_int (x / 65536 / 256) (by omega) (by omega)]; have e : (x / 65536 / 256).toNat = x.toNat / 16777216 := (by omega); have l := Lib.bitLen_le8' (x / 65536 / 256) (by omega) (by omega); have s := Lib.bitLen_shift24 x.toNat (by omega) (by omega); rw [e] at l ⊢; exact len8_sum 24 _ _ (by decide) l (by rw [s]; rfl))
  | (rw [len8tab_int (x / 65536) (by omega) (by omega)]; have e : (x / 65536).toNat = x.toNat / 65536 := (by omega); have l := Lib.bitLen_le8' (x / 65536) (by omega) (by omega); have s := Lib.bitLen_shift16 x.toNat (by omega) (by omega); rw [e] at l ⊢; exact len8_sum 16 _ _ (by decide) l (by rw [s]; rfl))
  | (rw [len8tab_int (x / 256) (by omega) (by omega)]; have e : (x / 256).toNat = x.toNat / 256 := (by omega); have l := Lib.bitLen_le8' (x / 256) (by omega) (by omega); have s := Lib.bitLen_shift8 x.toNat (by omega) (by omega); rw [e] at l ⊢; exact len8_sum 8 _ _ (by decide) l (by rw [s]; rfl))
  | (rw [len8tab_int x (by omega) (by omega)]; have l := Lib.bitLen_le8' x (by omega) (by omega); exact len8_alone _ l)

/-! ### bits_LeadingZeros64: function 130 -/
def bits_LeadingZeros64.f (a0 : Int) : Option (Int) := (bits_Len64.f a0).bind fun h4 => (some (wrap64 (64 - h4)))
set_option maxHeartbeats 8000000 in
set_option maxRecDepth 100000 in
theorem bits_LeadingZeros64.calls (a0 : Int) (r : Int) (w : World) (h : bits_LeadingZeros64.f a0 = some r) :
  Calls Try.prog 130 #[.int .u64 a0] w fun e w' => e = .returned (.int .i64 r) ∧ Drawn0 w w' := by
 have H : ((bits_Len64.f a0).bind fun h4 => (some (wrap64 (64 - h4)))) = some r := h
 clear h; replace H := Option.bind_eq_some_iff.mp H; obtain ⟨h4, o9, H⟩ := H; (try dsimp only at H); have A2 := mk_ o9; clear o9; obtain rfl := Option.some.inj H
 go_enter Try.func130, Try.ntmps130
 go_wp2_with (first | ((with_reducible refine gc_ 131 rfl ?_); refine gl_ (some 4) rfl Try.func131 #[.int .u64 a0] ?_; (with_reducible refine (bits_Len64.calls a0 h4 _ A2.out).mono ?_); rintro e w' ⟨rfl, ⟨nd, rfl⟩⟩; refine ⟨_, rfl, ?_⟩))
 go_ret
 exact ⟨by first | rfl | (simp; done) | (simp [*]; done), by repeat (first | exact Drawn0.refl _ | apply Drawn0.step)⟩

/-! ### bits_Div64: function 128 -/
mutual
def bits_Div64.j2 : Nat → Int → Int → Int → Int → Int → Int → Int → Int → Option (Int × Int)
 | 0, _, _, _, _, _, _, _, _ => none
 | k + 1, x2, x8, x9, g0, h5, h2, d8, c1 => if x9 = 0 then (none) else (bits_Div64.l1 k x2 x8 x9 g0 d8 c1 (IntKind.u64.wrap ((IntKind.u64.wrap ((IntKind.u64.wrap ((IntKind.u64.wrap (h5 * 4294967296)) + h2)) - (IntKind.u64.wrap (c1 * x2)))) - (IntKind.u64.wrap ((IntKind.u64.wrap (Int.tdiv (IntKind.u64.wrap ((IntKind.u64.wrap ((IntKind.u64.wrap (h5 * 4294967296)) + h2)) - (IntKind.u64.wrap (c1 * x2)))) x9)) * x9)))) (IntKind.u64.wrap ((IntKind.u64.wrap ((IntKind.u64.wrap (h5 * 4294967296)) + h2)) - (IntKind.u64.wrap (c1 * x2)))) (IntKind.u64.wrap (Int.tdiv (IntKind.u64.wrap ((IntKind.u64.wrap ((IntKind.u64.wrap (h5 * 4294967296)) + h2)) - (IntKind.u64.wrap (c1 * x2)))) x9)))
def bits_Div64.l1 : Nat → Int → Int → Int → Int → Int → Int → Int → Int → Int → Option (Int × Int)
 | 0, _, _, _, _, _, _, _, _, _ => none
 | k + 1, x2, x8, x9, g0, d8, c1, g1, l8, j3 => if j3 ≥ 4294967296 then (bits_Div64.j4 k x2 x8 x9 g0 d8 c1 g1 l8 j3 true) else (bits_Div64.j4 k x2 x8 x9 g0 d8 c1 g1 l8 j3 (decide ((IntKind.u64.wrap (j3 * g0)) > (IntKind.u64.wrap ((IntKind.u64.wrap (4294967296 * g1)) + d8)))))
def bits_Div64.j4 : Nat → Int → Int → Int → Int → Int → Int → Int → Int → Int → Bool → Option (Int × Int)
 | 0, _, _, _, _, _, _, _, _, _, _ => none
 | k + 1, x2, x8, x9, g0, d8, c1, g1, l8, j3, n6 => if n6 = true then (if (IntKind.u64.wrap (g1 + x9)) ≥ 4294967296 then (if 0 ≤ x8 then (some (IntKind.u64.wrap ((IntKind.u64.wrap (c1 * 4294967296)) + (IntKind.u64.wrap (j3 - 1))), shr .u64 (IntKind.u64.wrap ((IntKind.u64.wrap ((IntKind.u64.wrap (l8 * 4294967296)) + d8)) - (IntKind.u64.wrap ((IntKind.u64.wrap (j3 - 1)) * x2)))) x8)) else (none)) else (bits_Div64.l1 k x2 x8 x9 g0 d8 c1 (IntKind.u64.wrap (g1 + x9)) l8 (IntKind.u64.wrap (j3 - 1)))) else (if 0 ≤ x8 then (some (IntKind.u64.wrap ((IntKind.u64.wrap (c1 * 4294967296)) + j3), shr .u64 (IntKind.u64.wrap ((IntKind.u64.wrap ((IntKind.u64.wrap (l8 * 4294967296)) + d8)) - (IntKind.u64.wrap (j3 * x2)))) x8)) else (none))
def bits_Div64.l0 : Nat → Int → Int → Int → Int → Int → Int → Int → Int → Int → Option (Int × Int)
 | 0, _, _, _, _, _, _, _, _, _ => none
 | k + 1, x2, x8, x9, g0, h5, h2, d8, c1, g1 => if c1 ≥ 4294967296 then (bits_Div64.j1 k x2 x8 x9 g0 h5 h2 d8 c1 g1 true) else (bits_Div64.j1 k x2 x8 x9 g0 h5 h2 d8 c1 g1 (decide ((IntKind.u64.wrap (c1 * g0)) > (IntKind.u64.wrap ((IntKind.u64.wrap (4294967296 * g1)) + h2)))))
def bits_Div64.j1 : Nat → Int → Int → Int → Int → Int → Int → Int → Int → Int → Bool → Option (Int × Int)
 | 0, _, _, _, _, _, _, _, _, _, _ => none
 | k + 1, x2, x8, x9, g0, h5, h2, d8, c1, g1, q0 => if q0 = true then (if (IntKind.u64.wrap (g1 + x9)) ≥ 4294967296 then (bits_Div64.j2 k x2 x8 x9 g0 h5 h2 d8 (IntKind.u64.wrap (c1 - 1))) else (bits_Div64.l0 k x2 x8 x9 g0 h5 h2 d8 (IntKind.u64.wrap (c1 - 1)) (IntKind.u64.wrap (g1 + x9)))) else (bits_Div64.j2 k x2 x8 x9 g0 h5 h2 d8 c1)
end
def bits_Div64.f (k : Nat) (a0 : Int) (a1 : Int) (a2 : Int) : Option (Int × Int) := if a2 = 0 then (none) else (if a2 ≤ a0 then (none) else (if a0 = 0 then (some (IntKind.u64.wrap (Int.tdiv a1 a2), Int.tmod a1 a2)) else ((bits_LeadingZeros64.f a2).bind fun a4 => (if 0 ≤ (IntKind.u64.wrap (a4)) then (if 0 ≤ (IntKind.u64.wrap (64 - (IntKind.u64.wrap (a4)))) then (if ((shl .u64 a2 (IntKind.u64.wrap (a4))) / 4294967296) = 0 then (none) else (bits_Div64.l0 k (shl .u64 a2 (IntKind.u64.wrap (a4))) (IntKind.u64.wrap (a4)) ((shl .u64 a2 (IntKind.u64.wrap (a4))) / 4294967296) (Go.bits .and .u64 (shl .u64 a2 (IntKind.u64.wrap (a4))) 4294967295) (Go.bits .or .u64 (shl .u64 a0 (IntKind.u64.wrap (a4))) (shr .u64 a1 (IntKind.u64.wrap (64 - (IntKind.u64.wrap (a4)))))) ((shl .u64 a1 (IntKind.u64.wrap (a4))) / 4294967296) (Go.bits .and .u64 (shl .u64 a1 (IntKind.u64.wrap (a4))) 4294967295) (IntKind.u64.wrap (Int.tdiv (Go.bits .or .u64 (shl .u64 a0 (IntKind.u64.wrap (a4))) (shr .u64 a1 (IntKind.u64.wrap (64 - (IntKind.u64.wrap (a4)))))) ((shl .u64 a2 (IntKind.u64.wrap (a4))) / 4294967296))) (IntKind.u64.wrap ((Go.bits .or .u64 (shl .u64 a0 (IntKind.u64.wrap (a4))) (shr .u64 a1 (IntKind.u64.wrap (64 - (IntKind.u64.wrap (a4)))))) - (IntKind.u64.wrap ((IntKind.u64.wrap (Int.tdiv (Go.bits .or .u64 (shl .u64 a0 (IntKind.u64.wrap (a4))) (shr .u64 a1 (IntKind.u64.wrap (64 - (IntKind.u64.wrap (a4)))))) ((shl .u64 a2 (IntKind.u64.wrap (a4))) / 4294967296))) * ((shl .u64 a2 (IntKind.u64.wrap (a4))) / 4294967296))))))) else (none)) else (none)))))
theorem bits_Div64.mono_l : ∀ k, (∀ y0 y1 y2 y3 y4 y5 y6 y7, LeO (bits_Div64.j2 k y0 y1 y2 y3 y4 y5 y6 y7) (bits_Div64.j2 (k + 1) y0 y1 y2 y3 y4 y5 y6 y7)) ∧ (∀ y0 y1 y2 y3 y4 y5 y6 y7 y8, LeO (bits_Div64.l1 k y0 y1 y2 y3 y4 y5 y6 y7 y8) (bits_Div64.l1 (k + 1) y0 y1 y2 y3 y4 y5 y6 y7 y8)) ∧ (∀ y0 y1 y2 y3 y4 y5 y6 y7 y8 y9, LeO (bits_Div64.j4 k y0 y1 y2 y3 y4 y5 y6 y7 y8 y9) (bits_Div64.j4 (k + 1) y0 y1 y2 y3 y4 y5 y6 y7 y8 y9)) ∧ (∀ y0 y1 y2 y3 y4 y5 y6 y7 y8, LeO (bits_Div64.l0 k y0 y1 y2 y3 y4 y5 y6 y7 y8) (bits_Div64.l0 (k + 1) y0 y1 y2 y3 y4 y5 y6 y7 y8)) ∧ (∀ y0 y1 y2 y3 y4 y5 y6 y7 y8 y9, LeO (bits_Div64.j1 k y0 y1 y2 y3 y4 y5 y6 y7 y8 y9) (bits_Div64.j1 (k + 1) y0 y1 y2 y3 y4 y5 y6 y7 y8 y9))
 | 0 => ⟨fun _ _ _ _ _ _ _ _ r h => by simp [bits_Div64.j2] at h, fun _ _ _ _ _ _ _ _ _ r h => by simp [bits_Div64.l1] at h, fun _ _ _ _ _ _ _ _ _ _ r h => by simp [bits_Div64.j4] at h, fun _ _ _ _ _ _ _ _ _ r h => by simp [bits_Div64.l0] at h, fun _ _ _ _ _ _ _ _ _ _ r h => by simp [bits_Div64.j1] at h⟩
 | k + 1 => by
  obtain ⟨c2, g2, g3, g4, g5⟩ := bits_Div64.mono_l k
  refine ⟨?_, ?_, ?_, ?_, ?_⟩
  ·intro y0 y1 y2 y3 y4 y5 y6 y7
   unfold bits_Div64.j2
   repeat' first
   | (with_reducible exact c2 _ _ _ _ _ _ _ _)
   | (with_reducible exact g2 _ _ _ _ _ _ _ _ _)
   | (with_reducible exact g3 _ _ _ _ _ _ _ _ _ _)
   | (with_reducible exact g4 _ _ _ _ _ _ _ _ _)
   | (with_reducible exact g5 _ _ _ _ _ _ _ _ _ _)
   | (with_reducible exact LeO.refl _)
   | (with_reducible exact LeO.none _)
   | (with_reducible refine LeO.ite ?_ ?_)
   | (with_reducible refine LeO.bind ?_ (fun _ => ?_))
   | exact c2 _ _ _ _ _ _ _ _
   | exact g2 _ _ _ _ _ _ _ _ _
   | exact g3 _ _ _ _ _ _ _ _ _ _
   | exact g4 _ _ _ _ _ _ _ _ _
   | exact g5 _ _ _ _ _ _ _ _ _ _
   | exact LeO.none _
   | refine LeO.ite ?_ ?_
   | refine LeO.bind ?_ (fun _ => ?_)
  ·intro y0 y1 y2 y3 y4 y5 y6 y7 y8
   unfold bits_Div64.l1
   repeat' first
   | (with_reducible exact c2 _ _ _ _ _ _ _ _)
   | (with_reducible exact g2 _ _ _ _ _ _ _ _ _)
   | (with_reducible exact g3 _ _ _ _ _ _ _ _ _ _)
   | (with_reducible exact g4 _ _ _ _ _ _ _ _ _)
   | (with_reducible exact g5 _ _ _ _ _ _ _ _ _ _)
   | (with_reducible exact LeO.refl _)
   | (with_reducible exact LeO.none _)
   | (with_reducible refine LeO.ite ?_ ?_)
   | (with_reducible refine LeO.bind ?_ (fun _ => ?_))
   | exact c2 _ _ _ _ _ _ _ _
   | exact g2 _ _ _ _ _ _ _ _ _
   | exact g3 _ _ _ _ _ _ _ _ _ _
   | exact g4 _ _ _ _ _ _ _ _ _
   | exact g5 _ _ _ _ _ _ _ _ _ _
   | exact LeO.none _
   | refine LeO.ite ?_ ?_
   | refine LeO.bind ?_ (fun _ => ?_)
  ·intro y0 y1 y2 y3 y4 y5 y6 y7 y8 y9
   unfold bits_Div64.j4
   repeat' first
   | (with_reducible exact c2 _ _ _ _ _ _ _ _)
   | (with_reducible exact g2 _ _ _ _ _ _ _ _ _)
   | (with_reducible exact g3 _ _ _ _ _ _ _ _ _ _)
   | (with_reducible exact g4 _ _ _ _ _ _ _ _ _)
   | (with_reducible exact g5 _ _ _ _ _ _ _ _ _ _)
   | (with_reducible exact LeO.refl _)
   | (with_reducible exact LeO.none _)
   | (with_reducible refine LeO.ite ?_ ?_)
   | (with_reducible refine LeO.bind ?_ (fun _ => ?_))
   | exact c2 _ _ _ _ _ _ _ _
   | exact g2 _ _ _ _ _ _ _ _ _
   | exact g3 _ _ _ _ _ _ _ _ _ _
   | exact g4 _ _ _ _ _ _ _ _ _
   | exact g5 _ _ _ _ _ _ _ _ _ _
   | exact LeO.none _
   | refine LeO.ite ?_ ?_
   | refine LeO.bind ?_ (fun _ => ?_)
  ·intro y0 y1 y2 y3 y4 y5 y6 y7 y8
   unfold bits_Div64.l0
   repeat' first
   | (with_reducible exact c2 _ _ _ _ _ _ _ _)
   | (with_reducible exact g2 _ _ _ _ _ _ _ _ _)
   | (with_reducible exact g3 _ _ _ _ _ _ _ _ _ _)
   | (with_reducible exact g4 _ _ _ _ _ _ _ _ _)
   | (with_reducible exact g5 _ _ _ _ _ _ _ _ _ _)
   | (with_reducible exact LeO.refl _)
   | (with_reducible exact LeO.none _)
   | (with_reducible refine LeO.ite ?_ ?_)
   | (with_reducible refine LeO.bind ?_ (fun _ => ?_))
   | exact c2 _ _ _ _ _ _ _ _
   | exact g2 _ _ _ _ _ _ _ _ _
   | exact g3 _ _ _ _ _ _ _ _ _ _
   | exact g4 _ _ _ _ _ _ _ _ _
   | exact g5 _ _ _ _ _ _ _ _ _ _
   | exact LeO.none _
   | refine LeO.ite ?_ ?_
   | refine LeO.bind ?_ (fun _ => ?_)
  ·intro y0 y1 y2 y3 y4 y5 y6 y7 y8 y9
   unfold bits_Div64.j1
   repeat' first
   | (with_reducible exact c2 _ _ _ _ _ _ _ _)
   | (with_reducible exact g2 _ _ _ _ _ _ _ _ _)
   | (with_reducible exact g3 _ _ _ _ _ _ _ _ _ _)
   | (with_reducible exact g4 _ _ _ _ _ _ _ _ _)
   | (with_reducible exact g5 _ _ _ _ _ _ _ _ _ _)
   | (with_reducible exact LeO.refl _)
   | (with_reducible exact LeO.none _)
   | (with_reducible refine LeO.ite ?_ ?_)
   | (with_reducible refine LeO.bind ?_ (fun _ => ?_))
   | exact c2 _ _ _ _ _ _ _ _
   | exact g2 _ _ _ _ _ _ _ _ _
   | exact g3 _ _ _ _ _ _ _ _ _ _
   | exact g4 _ _ _ _ _ _ _ _ _
   | exact g5 _ _ _ _ _ _ _ _ _ _
   | exact LeO.none _
   | refine LeO.ite ?_ ?_
   | refine LeO.bind ?_ (fun _ => ?_)
theorem bits_Div64.mono : ∀ a0 a1 a2 k, LeO (bits_Div64.f k a0 a1 a2) (bits_Div64.f (k + 1) a0 a1 a2) := by
 intro a0 a1 a2 k
 obtain ⟨c2, g2, g3, g4, g5⟩ := bits_Div64.mono_l k
 unfold bits_Div64.f
 repeat' first
   | (with_reducible exact c2 _ _ _ _ _ _ _ _)
   | (with_reducible exact g2 _ _ _ _ _ _ _ _ _)
   | (with_reducible exact g3 _ _ _ _ _ _ _ _ _ _)
   | (with_reducible exact g4 _ _ _ _ _ _ _ _ _)
   | (with_reducible exact g5 _ _ _ _ _ _ _ _ _ _)
   | (with_reducible exact LeO.refl _)
   | (with_reducible exact LeO.none _)
   | (with_reducible refine LeO.ite ?_ ?_)
   | (with_reducible refine LeO.bind ?_ (fun _ => ?_))
   | exact c2 _ _ _ _ _ _ _ _
   | exact g2 _ _ _ _ _ _ _ _ _
   | exact g3 _ _ _ _ _ _ _ _ _ _
   | exact g4 _ _ _ _ _ _ _ _ _
   | exact g5 _ _ _ _ _ _ _ _ _ _
   | exact LeO.none _
   | refine LeO.ite ?_ ?_
   | refine LeO.bind ?_ (fun _ => ?_)
set_option maxHeartbeats 8000000 in
set_option maxRecDepth 100000 in
theorem bits_Div64.calls (k : Nat) (a0 : Int) (a1 : Int) (a2 : Int) (r1 : Int) (r2 : Int) (w : World) (h : bits_Div64.f k a0 a1 a2 = some (r1, r2)) :
  Calls Try.prog 128 #[.int .u64 a0, .int .u64 a1, .int .u64 a2] w fun e w' => e = .returned (.tuple #[.int .u64 r1, .int .u64 r2]) ∧ Drawn0 w w' := by
 have H : (if a2 = 0 then (none) else (if a2 ≤ a0 then (none) else (if a0 = 0 then (some (IntKind.u64.wrap (Int.tdiv a1 a2), Int.tmod a1 a2)) else ((bits_LeadingZeros64.f a2).bind fun a4 => (if 0 ≤ (IntKind.u64.wrap (a4)) then (if 0 ≤ (IntKind.u64.wrap (64 - (IntKind.u64.wrap (a4)))) then (if ((shl .u64 a2 (IntKind.u64.wrap (a4))) / 4294967296) = 0 then (none) else (bits_Div64.l0 k (shl .u64 a2 (IntKind.u64.wrap (a4))) (IntKind.u64.wrap (a4)) ((shl .u64 a2 (IntKind.u64.wrap (a4))) / 4294967296) (Go.bits .and .u64 (shl .u64 a2 (IntKind.u64.wrap (a4))) 4294967295) (Go.bits .or .u64 (shl .u64 a0 (IntKind.u64.wrap (a4))) (shr .u64 a1 (IntKind.u64.wrap (64 - (IntKind.u64.wrap (a4)))))) ((shl .u64 a1 (IntKind.u64.wrap (a4))) / 4294967296) (Go.bits .and .u64 (shl .u64 a1 (IntKind.u64.wrap (a4))) 4294967295) (IntKind.u64.wrap (Int.tdiv (Go.bits .or .u64 (shl .u64 a0 (IntKind.u64.wrap (a4))) (shr .u64 a1 (IntKind.u64.wrap (64 - (IntKind.u64.wrap (a4)))))) ((shl .u64 a2 (IntKind.u64.wrap (a4))) / 4294967296))) (IntKind.u64.wrap ((Go.bits .or .u64 (shl .u64 a0 (IntKind.u64.wrap (a4))) (shr .u64 a1 (IntKind.u64.wrap (64 - (IntKind.u64.wrap (a4)))))) - (IntKind.u64.wrap ((IntKind.u64.wrap (Int.tdiv (Go.bits .or .u64 (shl .u64 a0 (IntKind.u64.wrap (a4))) (shr .u64 a1 (IntKind.u64.wrap (64 - (IntKind.u64.wrap (a4)))))) ((shl .u64 a2 (IntKind.u64.wrap (a4))) / 4294967296))) * ((shl .u64 a2 (IntKind.u64.wrap (a4))) / 4294967296))))))) else (none)) else (none)))))) = some (r1, r2) := h
 clear h; by_cases c4 : a2 = 0
 ·rw [if_pos c4] at H
  exact absurd H (by simp)
 ·rw [if_neg c4] at H; have g6 : (a2 == 0) = false := beq_eq_false_iff_ne.mpr c4; have g7 : (a2 != 0) = true := bne_iff_ne.mpr c4; by_cases c5 : a2 ≤ a0
  ·rw [if_pos c5] at H
   exact absurd H (by simp)
  ·rw [if_neg c5] at H; have h6 : decide (a2 ≤ a0) = false := decide_eq_false c5; clear c5; by_cases c6 : a0 = 0
   ·rw [if_pos c6] at H; have g8 : (a0 == 0) = true := beq_iff_eq.mpr c6; have g9 : (a0 != 0) = false := bne_eq_false_iff_eq.mpr c6; clear c6
    simp only [Option.some.injEq, Prod.mk.injEq] at H
    obtain ⟨rfl, rfl⟩ := H
    go_enter Try.func128, Try.ntmps128
    go_wp2
    repeat (go_quiet (fail); try go_wp2)
    go_ret2
    exact ⟨by first | rfl | (simp; done) | (simp [*]; done), by repeat (first | exact Drawn0.refl _ | apply Drawn0.step)⟩
   ·rw [if_neg c6] at H; have g8 : (a0 == 0) = false := beq_eq_false_iff_ne.mpr c6; have g9 : (a0 != 0) = true := bne_iff_ne.mpr c6; replace H := Option.bind_eq_some_iff.mp H; obtain ⟨a4, p0, H⟩ := H
    replace H : (if 0 ≤ (IntKind.u64.wrap (a4)) then (if 0 ≤ (IntKind.u64.wrap (64 - (IntKind.u64.wrap (a4)))) then (if ((shl .u64 a2 (IntKind.u64.wrap (a4))) / 4294967296) = 0 then (none) else (bits_Div64.l0 k (shl .u64 a2 (IntKind.u64.wrap (a4))) (IntKind.u64.wrap (a4)) ((shl .u64 a2 (IntKind.u64.wrap (a4))) / 4294967296) (Go.bits .and .u64 (shl .u64 a2 (IntKind.u64.wrap (a4))) 4294967295) (Go.bits .or .u64 (shl .u64 a0 (IntKind.u64.wrap (a4))) (shr .u64 a1 (IntKind.u64.wrap (64 - (IntKind.u64.wrap (a4)))))) ((shl .u64 a1 (IntKind.u64.wrap (a4))) / 4294967296) (Go.bits .and .u64 (shl .u64 a1 (IntKind.u64.wrap (a4))) 4294967295) (IntKind.u64.wrap (Int.tdiv (Go.bits .or .u64 (shl .u64 a0 (IntKind.u64.wrap (a4))) (shr .u64 a1 (IntKind.u64.wrap (64 - (IntKind.u64.wrap (a4)))))) ((shl .u64 a2 (IntKind.u64.wrap (a4))) / 4294967296))) (IntKind.u64.wrap ((Go.bits .or .u64 (shl .u64 a0 (IntKind.u64.wrap (a4))) (shr .u64 a1 (IntKind.u64.wrap (64 - (IntKind.u64.wrap (a4)))))) - (IntKind.u64.wrap ((IntKind.u64.wrap (Int.tdiv (Go.bits .or .u64 (shl .u64 a0 (IntKind.u64.wrap (a4))) (shr .u64 a1 (IntKind.u64.wrap (64 - (IntKind.u64.wrap (a4)))))) ((shl .u64 a2 (IntKind.u64.wrap (a4))) / 4294967296))) * ((shl .u64 a2 (IntKind.u64.wrap (a4))) / 4294967296))))))) else (none)) else (none)) = some (r1, r2) := H
    have A7 := mk_ p0; clear p0
    obtain ⟨a6, h7⟩ : ∃ j_ : Int, (IntKind.u64.wrap (a4)) = j_ := ⟨_, rfl⟩
    replace H : (if 0 ≤ (a6) then (if 0 ≤ (IntKind.u64.wrap (64 - (a6))) then (if ((shl .u64 a2 (a6)) / 4294967296) = 0 then (none) else (bits_Div64.l0 k (shl .u64 a2 (a6)) a6 ((shl .u64 a2 (a6)) / 4294967296) (Go.bits .and .u64 (shl .u64 a2 (a6)) 4294967295) (Go.bits .or .u64 (shl .u64 a0 (a6)) (shr .u64 a1 (IntKind.u64.wrap (64 - (a6))))) ((shl .u64 a1 (a6)) / 4294967296) (Go.bits .and .u64 (shl .u64 a1 (a6)) 4294967295) (IntKind.u64.wrap (Int.tdiv (Go.bits .or .u64 (shl .u64 a0 (a6)) (shr .u64 a1 (IntKind.u64.wrap (64 - (a6))))) ((shl .u64 a2 (a6)) / 4294967296))) (IntKind.u64.wrap ((Go.bits .or .u64 (shl .u64 a0 (a6)) (shr .u64 a1 (IntKind.u64.wrap (64 - (a6))))) - (IntKind.u64.wrap ((IntKind.u64.wrap (Int.tdiv (Go.bits .or .u64 (shl .u64 a0 (a6)) (shr .u64 a1 (IntKind.u64.wrap (64 - (a6))))) ((shl .u64 a2 (a6)) / 4294967296))) * ((shl .u64 a2 (a6)) / 4294967296))))))) else (none)) else (none)) = some (r1, r2) := by first | (rw [h7] at H; exact H) | (simp only [h7] at H ⊢; exact H)
    (try rw [h7] at A7)
    by_cases c9 : 0 ≤ (a6)
    ·rw [if_pos c9] at H
     have h8 := eq_true c9
     have h9 : decide (0 ≤ (a6)) = true := decide_eq_true c9; clear c9
     obtain ⟨a3, b1⟩ : ∃ j_ : Int, (shl .u64 a2 (a6)) = j_ := ⟨_, rfl⟩
     replace H : (if 0 ≤ (IntKind.u64.wrap (64 - (a6))) then (if ((a3) / 4294967296) = 0 then (none) else (bits_Div64.l0 k a3 a6 ((a3) / 4294967296) (Go.bits .and .u64 (a3) 4294967295) (Go.bits .or .u64 (shl .u64 a0 (a6)) (shr .u64 a1 (IntKind.u64.wrap (64 - (a6))))) ((shl .u64 a1 (a6)) / 4294967296) (Go.bits .and .u64 (shl .u64 a1 (a6)) 4294967295) (IntKind.u64.wrap (Int.tdiv (Go.bits .or .u64 (shl .u64 a0 (a6)) (shr .u64 a1 (IntKind.u64.wrap (64 - (a6))))) ((a3) / 4294967296))) (IntKind.u64.wrap ((Go.bits .or .u64 (shl .u64 a0 (a6)) (shr .u64 a1 (IntKind.u64.wrap (64 - (a6))))) - (IntKind.u64.wrap ((IntKind.u64.wrap (Int.tdiv (Go.bits .or .u64 (shl .u64 a0 (a6)) (shr .u64 a1 (IntKind.u64.wrap (64 - (a6))))) ((a3) / 4294967296))) * ((a3) / 4294967296))))))) else (none)) = some (r1, r2) := by first | (rw [b1] at H; exact H) | (simp only [b1] at H ⊢; exact H)
     (try rw [b1] at A7)
     have n7 : (IntKind.u64.wrap (a2 * 2 ^ min (a6).toNat 64)) = a3 := b1
     have hji10z : (a6) ≤ 64 → (IntKind.u64.wrap (a2 * 2 ^ (a6).toNat)) = a3 := shl_small b1
     have c8 := eq_true (od_ : 0 ≤ (a6))
     obtain ⟨a8, b3⟩ : ∃ j_ : Int, (shl .u64 a0 (a6)) = j_ := ⟨_, rfl⟩
     replace H : (if 0 ≤ (IntKind.u64.wrap (64 - (a6))) then (if ((a3) / 4294967296) = 0 then (none) else (bits_Div64.l0 k a3 a6 ((a3) / 4294967296) (Go.bits .and .u64 (a3) 4294967295) (Go.bits .or .u64 (a8) (shr .u64 a1 (IntKind.u64.wrap (64 - (a6))))) ((shl .u64 a1 (a6)) / 4294967296) (Go.bits .and .u64 (shl .u64 a1 (a6)) 4294967295) (IntKind.u64.wrap (Int.tdiv (Go.bits .or .u64 (a8) (shr .u64 a1 (IntKind.u64.wrap (64 - (a6))))) ((a3) / 4294967296))) (IntKind.u64.wrap ((Go.bits .or .u64 (a8) (shr .u64 a1 (IntKind.u64.wrap (64 - (a6))))) - (IntKind.u64.wrap ((IntKind.u64.wrap (Int.tdiv (Go.bits .or .u64 (a8) (shr .u64 a1 (IntKind.u64.wrap (64 - (a6))))) ((a3) / 4294967296))) * ((a3) / 4294967296))))))) else (none)) = some (r1, r2) := by first | (rw [b3] at H; exact H) | (simp only [b3] at H ⊢; exact H)
     (try rw [b3] at A7)
     have n8 : (IntKind.u64.wrap (a0 * 2 ^ min (a6).toNat 64)) = a8 := b3
     have hji12z : (a6) ≤ 64 → (IntKind.u64.wrap (a0 * 2 ^ (a6).toNat)) = a8 := shl_small b3
     obtain ⟨b9, d0⟩ : ∃ j_ : Int, (IntKind.u64.wrap (64 - (a6))) = j_ := ⟨_, rfl⟩
     replace H : (if 0 ≤ (b9) then (if ((a3) / 4294967296) = 0 then (none) else (bits_Div64.l0 k a3 a6 ((a3) / 4294967296) (Go.bits .and .u64 (a3) 4294967295) (Go.bits .or .u64 (a8) (shr .u64 a1 (b9))) ((shl .u64 a1 (a6)) / 4294967296) (Go.bits .and .u64 (shl .u64 a1 (a6)) 4294967295) (IntKind.u64.wrap (Int.tdiv (Go.bits .or .u64 (a8) (shr .u64 a1 (b9))) ((a3) / 4294967296))) (IntKind.u64.wrap ((Go.bits .or .u64 (a8) (shr .u64 a1 (b9))) - (IntKind.u64.wrap ((IntKind.u64.wrap (Int.tdiv (Go.bits .or .u64 (a8) (shr .u64 a1 (b9))) ((a3) / 4294967296))) * ((a3) / 4294967296))))))) else (none)) = some (r1, r2) := by first | (rw [d0] at H; exact H) | (simp only [d0] at H ⊢; exact H)
     (try rw [d0] at A7)
     by_cases j5 : 0 ≤ (b9)
     ·rw [if_pos j5] at H
      have d1 := eq_true j5
      have d2 : decide (0 ≤ (b9)) = true := decide_eq_true j5; clear j5
      obtain ⟨b0, b4⟩ : ∃ j_ : Int, (shr .u64 a1 (b9)) = j_ := ⟨_, rfl⟩
      replace H : (if ((a3) / 4294967296) = 0 then (none) else (bits_Div64.l0 k a3 a6 ((a3) / 4294967296) (Go.bits .and .u64 (a3) 4294967295) (Go.bits .or .u64 (a8) (b0)) ((shl .u64 a1 (a6)) / 4294967296) (Go.bits .and .u64 (shl .u64 a1 (a6)) 4294967295) (IntKind.u64.wrap (Int.tdiv (Go.bits .or .u64 (a8) (b0)) ((a3) / 4294967296))) (IntKind.u64.wrap ((Go.bits .or .u64 (a8) (b0)) - (IntKind.u64.wrap ((IntKind.u64.wrap (Int.tdiv (Go.bits .or .u64 (a8) (b0)) ((a3) / 4294967296))) * ((a3) / 4294967296))))))) = some (r1, r2) := by first | (rw [b4] at H; exact H) | (simp only [b4] at H ⊢; exact H)
      (try rw [b4] at A7)
      have n9 : (a1 / 2 ^ min (b9).toNat 64) = b0 := b4
      have hji15z : (b9) ≤ 64 → (a1 / 2 ^ (b9).toNat) = b0 := shr_small b4
      have d3 := eq_true (od_ : 0 ≤ (a6))
      obtain ⟨a7, b5⟩ : ∃ j_ : Int, (shl .u64 a1 (a6)) = j_ := ⟨_, rfl⟩
      replace H : (if ((a3) / 4294967296) = 0 then (none) else (bits_Div64.l0 k a3 a6 ((a3) / 4294967296) (Go.bits .and .u64 (a3) 4294967295) (Go.bits .or .u64 (a8) (b0)) ((a7) / 4294967296) (Go.bits .and .u64 (a7) 4294967295) (IntKind.u64.wrap (Int.tdiv (Go.bits .or .u64 (a8) (b0)) ((a3) / 4294967296))) (IntKind.u64.wrap ((Go.bits .or .u64 (a8) (b0)) - (IntKind.u64.wrap ((IntKind.u64.wrap (Int.tdiv (Go.bits .or .u64 (a8) (b0)) ((a3) / 4294967296))) * ((a3) / 4294967296))))))) = some (r1, r2) := by first | (rw [b5] at H; exact H) | (simp only [b5] at H ⊢; exact H)
      (try rw [b5] at A7)
      have o0 : (IntKind.u64.wrap (a1 * 2 ^ min (a6).toNat 64)) = a7 := b5
      have hji17z : (a6) ≤ 64 → (IntKind.u64.wrap (a1 * 2 ^ (a6).toNat)) = a7 := shl_small b5
      by_cases j8 : ((a3) / 4294967296) = 0
      ·rw [if_pos j8] at H
       exact absurd H (by simp)
      ·rw [if_neg j8] at H; have p1 : (((a3) / 4294967296) == 0) = false := beq_eq_false_iff_ne.mpr j8; have p2 : (((a3) / 4294967296) != 0) = true := bne_iff_ne.mpr j8; have l3 := mk_ H; clear H
       go_enter Try.func128, Try.ntmps128
       go_upto_block 0 with (first | (go_at_call 130; (with_reducible refine (bits_LeadingZeros64.calls a2 a4 _ A7.out).mono ?_); rintro e w' ⟨rfl, ⟨nd, rfl⟩⟩; (try first | exact ⟨rfl, _, World.drewN_drewN _ _ _⟩ | exact ⟨rfl, _, Eq.trans (World.drewN_drewN _ _ _) (congrArg (World.drewN _) (Nat.add_assoc _ _ _))⟩)))
       repeat (go_quiet (first | (go_at_call 130; (with_reducible refine (bits_LeadingZeros64.calls a2 a4 _ A7.out).mono ?_); rintro e w' ⟨rfl, ⟨nd, rfl⟩⟩; (try first | exact ⟨rfl, _, World.drewN_drewN _ _ _⟩ | exact ⟨rfl, _, Eq.trans (World.drewN_drewN _ _ _) (congrArg (World.drewN _) (Nat.add_assoc _ _ _))⟩))); go_upto_block 0 with (first | (go_at_call 130; (with_reducible refine (bits_LeadingZeros64.calls a2 a4 _ A7.out).mono ?_); rintro e w' ⟨rfl, ⟨nd, rfl⟩⟩; (try first | exact ⟨rfl, _, World.drewN_drewN _ _ _⟩ | exact ⟨rfl, _, Eq.trans (World.drewN_drewN _ _ _) (congrArg (World.drewN _) (Nat.add_assoc _ _ _))⟩))))
       (try simp only [Act.put, List.setIfInBounds_toArray, List.set_cons_zero, List.set_cons_succ])
       go_cut [15] (fun v15 wc => ∃ (kq : Nat) (a5 : Int), v15 = .int .u64 a5 ∧ Aside0 (bits_Div64.j2 kq a3 a6 ((a3) / 4294967296) (Go.bits .and .u64 (a3) 4294967295) (Go.bits .or .u64 (a8) (b0)) ((a7) / 4294967296) (Go.bits .and .u64 (a7) 4294967295) a5 = some (r1, r2)) ∧ Aside0 (kq ≤ k) ∧ Drawn0 w wc)
       case first =>
        have H := l3.out; clear l3
        have H' := mk_ H
        clear H; go_wp2
        repeat (go_quiet (fail); try go_wp2)
        go_loopg [15, 16] k (fun kq v15 v16 w' => ∃ (b2 : Int) (b6 : Int), v15 = .int .u64 b2 ∧ v16 = .int .u64 b6 ∧ Aside0 (bits_Div64.l0 kq a3 a6 ((a3) / 4294967296) (Go.bits .and .u64 (a3) 4294967295) (Go.bits .or .u64 (a8) (b0)) ((a7) / 4294967296) (Go.bits .and .u64 (a7) 4294967295) b2 b6 = some (r1, r2)) ∧ Aside0 (kq ≤ k) ∧ Drawn0 w w')
        case atStart => exact ⟨(IntKind.u64.wrap (Int.tdiv (Go.bits .or .u64 (a8) (b0)) ((a3) / 4294967296))), (IntKind.u64.wrap ((Go.bits .or .u64 (a8) (b0)) - (IntKind.u64.wrap ((IntKind.u64.wrap (Int.tdiv (Go.bits .or .u64 (a8) (b0)) ((a3) / 4294967296))) * ((a3) / 4294967296))))), (by first | rfl | (simp; done) | (simp only [← b1, ← b3, ← b4] <;> (first | rfl | simp)) | (simp [*]; done)), (by first | rfl | (simp; done) | (simp only [← b1, ← b3, ← b4] <;> (first | rfl | simp)) | (simp [*]; done)), H', ⟨Nat.le_refl _⟩, by repeat (first | exact Drawn0.refl _ | apply Drawn0.step)⟩
        case round =>
         clear H'; (try clear c4); (try clear g6); (try clear g7); (try clear c5); (try clear h6); (try clear c6); (try clear g8); (try clear g9); (try clear c9); (try clear h8); (try clear h9); (try clear c8); (try clear j5); (try clear d1); (try clear d2); (try clear d3); (try clear j8)
         obtain ⟨b2, b6, rfl, rfl, HA, j7, ⟨m1, rfl⟩⟩ := hrel
         cases gk with
         | zero => exact absurd HA.out (by simp [bits_Div64.l0])
         | succ k1 =>
          have H := HA.out; clear HA
          simp only [bits_Div64.l0] at H
          have l4 := mk_ H; clear H
          go_upto_region 17 with (fail)
          repeat (go_quiet (fail); go_upto_region 17 with (fail))
          go_cut [78] (fun v78 wc => ∃ (kq : Nat) (c7 : Bool), v78 = .bool c7 ∧ Aside0 (bits_Div64.j1 kq a3 a6 ((a3) / 4294967296) (Go.bits .and .u64 (a3) 4294967295) (Go.bits .or .u64 (a8) (b0)) ((a7) / 4294967296) (Go.bits .and .u64 (a7) 4294967295) b2 b6 c7 = some (r1, r2)) ∧ Aside0 (kq ≤ k1) ∧ Drawn0 w wc)
          case first =>
           have H := l4.out; clear l4; by_cases l9 : b2 ≥ 4294967296
           ·rw [if_pos l9] at H; have d4 : decide (4294967296 ≤ b2) = true := decide_eq_true l9; clear l9
            (first | rw [d4] | (simp only [i64_w, i32_w]; rw [d4]) | skip)
            have H' := mk_ H
            clear H; go_wp2
            repeat (go_quiet (fail); try go_wp2)
            go_meet
            case rel => exact ⟨_, (true), rf_, H', ⟨by have := j7.out; first | omega | exact Nat.le_refl _⟩, by repeat (first | exact Drawn0.refl _ | apply Drawn0.step)⟩
           ·rw [if_neg l9] at H; have d4 : decide (4294967296 ≤ b2) = false := decide_eq_false l9; clear l9
            (first | rw [d4] | (simp only [i64_w, i32_w]; rw [d4]) | skip)
            have H' := mk_ H
            clear H; go_wp2
            repeat (go_quiet (fail); try go_wp2)
            go_meet
            case rel => exact ⟨_, (decide ((IntKind.u64.wrap (b2 * (Go.bits .and .u64 (a3) 4294967295))) > (IntKind.u64.wrap ((IntKind.u64.wrap (4294967296 * b6)) + ((a7) / 4294967296))))), (by first | rfl | (simp; done) | (simp only [← b1, ← b5] <;> (first | rfl | simp)) | (simp [*]; done)), H', ⟨by have := j7.out; first | omega | exact Nat.le_refl _⟩, by repeat (first | exact Drawn0.refl _ | apply Drawn0.step)⟩
          case rest =>
           clear l4; (try clear c4); (try clear g6); (try clear g7); (try clear c5); (try clear h6); (try clear c6); (try clear g8); (try clear g9); (try clear c9); (try clear h8); (try clear h9); (try clear c8); (try clear j5); (try clear d1); (try clear d2); (try clear d3); (try clear j8)
           obtain ⟨kq, c7, rfl, HA, j9, ⟨mc19, rfl⟩⟩ := hcut
           cases kq with
           | zero => exact absurd HA.out (by simp [bits_Div64.j1])
           | succ kj19 =>
            have H := HA.out; clear HA
            simp only [bits_Div64.j1] at H
            by_cases n1 : c7 = true
            ·subst n1
             have H1 : (if (IntKind.u64.wrap (b6 + ((a3) / 4294967296))) ≥ 4294967296 then (bits_Div64.j2 kj19 a3 a6 ((a3) / 4294967296) (Go.bits .and .u64 (a3) 4294967295) (Go.bits .or .u64 (a8) (b0)) ((a7) / 4294967296) (Go.bits .and .u64 (a7) 4294967295) (IntKind.u64.wrap (b2 - 1))) else (bits_Div64.l0 kj19 a3 a6 ((a3) / 4294967296) (Go.bits .and .u64 (a3) 4294967295) (Go.bits .or .u64 (a8) (b0)) ((a7) / 4294967296) (Go.bits .and .u64 (a7) 4294967295) (IntKind.u64.wrap (b2 - 1)) (IntKind.u64.wrap (b6 + ((a3) / 4294967296))))) = some (r1, r2) := by rw [if_pos rfl] at H; exact H
             clear H
             have H := H1
             clear H1; by_cases m0 : (IntKind.u64.wrap (b6 + ((a3) / 4294967296))) ≥ 4294967296
             ·rw [if_pos m0] at H; have m6 : decide (4294967296 ≤ (IntKind.u64.wrap (b6 + ((a3) / 4294967296)))) = true := decide_eq_true m0; clear m0
              have H' := mk_ H
              clear H; go_wp2
              repeat (go_quiet (fail); try go_wp2)
              go_meet
              case rel => exact ⟨_, (IntKind.u64.wrap (b2 - 1)), rf_, H', ⟨by have := j7.out; have := j9.out; first | omega | exact Nat.le_refl _⟩, by repeat (first | exact Drawn0.refl _ | apply Drawn0.step)⟩
             ·rw [if_neg m0] at H; have m6 : decide (4294967296 ≤ (IntKind.u64.wrap (b6 + ((a3) / 4294967296)))) = false := decide_eq_false m0; clear m0
              have H' := mk_ H
              clear H; go_wp2
              repeat (go_quiet (fail); try go_wp2)
              go_roundg kj19
              case measure => have := j7.out; have := j9.out; omega
              case rel => exact ⟨(IntKind.u64.wrap (b2 - 1)), (IntKind.u64.wrap (b6 + ((a3) / 4294967296))), rf_, (by first | rfl | (simp; done) | (simp only [← b1] <;> (first | rfl | simp)) | (simp [*]; done)), H', ⟨by have := j7.out; have := j9.out; omega⟩, by repeat (first | exact Drawn0.refl _ | apply Drawn0.step)⟩
            ·replace n1 := Bool.eq_false_iff.mpr n1; subst n1
             have H1 : (bits_Div64.j2 kj19 a3 a6 ((a3) / 4294967296) (Go.bits .and .u64 (a3) 4294967295) (Go.bits .or .u64 (a8) (b0)) ((a7) / 4294967296) (Go.bits .and .u64 (a7) 4294967295) b2) = some (r1, r2) := by rw [if_neg (show ¬ (false = true) by decide)] at H; exact H
             clear H
             have H := H1
             clear H1
             have H' := mk_ H
             clear H; go_wp2
             repeat (go_quiet (fail); try go_wp2)
             go_meet
             case rel => exact ⟨_, (b2), rf_, H', ⟨by have := j7.out; have := j9.out; first | omega | exact Nat.le_refl _⟩, by repeat (first | exact Drawn0.refl _ | apply Drawn0.step)⟩
       case rest =>
        clear l3; (try clear c4); (try clear g6); (try clear g7); (try clear c5); (try clear h6); (try clear c6); (try clear g8); (try clear g9); (try clear c9); (try clear h8); (try clear h9); (try clear c8); (try clear j5); (try clear d1); (try clear d2); (try clear d3); (try clear j8)
        obtain ⟨kq, a5, rfl, HA, l2, ⟨mc18, rfl⟩⟩ := hcut
        cases kq with
        | zero => exact absurd HA.out (by simp [bits_Div64.j2])
        | succ kj18 =>
         have H := HA.out; clear HA
         simp only [bits_Div64.j2] at H
         by_cases m3 : ((a3) / 4294967296) = 0
         ·rw [if_pos m3] at H
          exact absurd H (by simp)
         ·rw [if_neg m3] at H; have p3 : (((a3) / 4294967296) == 0) = false := beq_eq_false_iff_ne.mpr m3; have p4 : (((a3) / 4294967296) != 0) = true := bne_iff_ne.mpr m3
          have H' := mk_ H
          clear H; go_wp2
          repeat (go_quiet (fail); try go_wp2)
          go_loopg [16, 18] kj18 (fun kq v16 v18 w' => ∃ (b7 : Int) (a9 : Int), v16 = .int .u64 b7 ∧ v18 = .int .u64 a9 ∧ Aside0 (bits_Div64.l1 kq a3 a6 ((a3) / 4294967296) (Go.bits .and .u64 (a3) 4294967295) (Go.bits .and .u64 (a7) 4294967295) a5 b7 (IntKind.u64.wrap ((IntKind.u64.wrap ((IntKind.u64.wrap ((Go.bits .or .u64 (a8) (b0)) * 4294967296)) + ((a7) / 4294967296))) - (IntKind.u64.wrap (a5 * a3)))) a9 = some (r1, r2)) ∧ Aside0 (kq ≤ kj18) ∧ Drawn0 w w')
          case atStart => exact ⟨(IntKind.u64.wrap ((IntKind.u64.wrap ((IntKind.u64.wrap ((IntKind.u64.wrap ((Go.bits .or .u64 (a8) (b0)) * 4294967296)) + ((a7) / 4294967296))) - (IntKind.u64.wrap (a5 * a3)))) - (IntKind.u64.wrap ((IntKind.u64.wrap (Int.tdiv (IntKind.u64.wrap ((IntKind.u64.wrap ((IntKind.u64.wrap ((Go.bits .or .u64 (a8) (b0)) * 4294967296)) + ((a7) / 4294967296))) - (IntKind.u64.wrap (a5 * a3)))) ((a3) / 4294967296))) * ((a3) / 4294967296))))), (IntKind.u64.wrap (Int.tdiv (IntKind.u64.wrap ((IntKind.u64.wrap ((IntKind.u64.wrap ((Go.bits .or .u64 (a8) (b0)) * 4294967296)) + ((a7) / 4294967296))) - (IntKind.u64.wrap (a5 * a3)))) ((a3) / 4294967296))), (by first | rfl | (simp; done) | (simp only [← b1, ← b3, ← b4, ← b5] <;> (first | rfl | simp)) | (simp [*]; done)), (by first | rfl | (simp; done) | (simp only [← b1, ← b3, ← b4, ← b5] <;> (first | rfl | simp)) | (simp [*]; done)), H', ⟨Nat.le_refl _⟩, by repeat (first | exact Drawn0.refl _ | apply Drawn0.step)⟩
          case round =>
           clear H'; (try clear c4); (try clear g6); (try clear g7); (try clear c5); (try clear h6); (try clear c6); (try clear g8); (try clear g9); (try clear c9); (try clear h8); (try clear h9); (try clear c8); (try clear j5); (try clear d1); (try clear d2); (try clear d3); (try clear j8); (try clear m3)
           obtain ⟨b7, a9, rfl, rfl, HA, n2, ⟨m2, rfl⟩⟩ := hrel
           cases gk with
           | zero => exact absurd HA.out (by simp [bits_Div64.l1])
           | succ k2 =>
            have H := HA.out; clear HA
            simp only [bits_Div64.l1] at H
            have l5 := mk_ H; clear H
            go_upto_region 24 with (fail)
            repeat (go_quiet (fail); go_upto_region 24 with (fail))
            go_cut [113] (fun v113 wc => ∃ (kq : Nat) (b8 : Bool), v113 = .bool b8 ∧ Aside0 (bits_Div64.j4 kq a3 a6 ((a3) / 4294967296) (Go.bits .and .u64 (a3) 4294967295) (Go.bits .and .u64 (a7) 4294967295) a5 b7 (IntKind.u64.wrap ((IntKind.u64.wrap ((IntKind.u64.wrap ((Go.bits .or .u64 (a8) (b0)) * 4294967296)) + ((a7) / 4294967296))) - (IntKind.u64.wrap (a5 * a3)))) a9 b8 = some (r1, r2)) ∧ Aside0 (kq ≤ k2) ∧ Drawn0 w wc)
            case first =>
             have H := l5.out; clear l5; by_cases m4 : a9 ≥ 4294967296
             ·rw [if_pos m4] at H; have d5 : decide (4294967296 ≤ a9) = true := decide_eq_true m4; clear m4
              (first | rw [d5] | (simp only [i64_w, i32_w]; rw [d5]) | skip)
              have H' := mk_ H
              clear H; go_wp2
              repeat (go_quiet (fail); try go_wp2)
              go_meet
              case rel => exact ⟨_, (true), rf_, H', ⟨by have := l2.out; have := n2.out; first | omega | exact Nat.le_refl _⟩, by repeat (first | exact Drawn0.refl _ | apply Drawn0.step)⟩
             ·rw [if_neg m4] at H; have d5 : decide (4294967296 ≤ a9) = false := decide_eq_false m4; clear m4
              (first | rw [d5] | (simp only [i64_w, i32_w]; rw [d5]) | skip)
              have H' := mk_ H
              clear H; go_wp2
              repeat (go_quiet (fail); try go_wp2)
              go_meet
              case rel => exact ⟨_, (decide ((IntKind.u64.wrap (a9 * (Go.bits .and .u64 (a3) 4294967295))) > (IntKind.u64.wrap ((IntKind.u64.wrap (4294967296 * b7)) + (Go.bits .and .u64 (a7) 4294967295))))), (by first | rfl | (simp; done) | (simp only [← b1, ← b5] <;> (first | rfl | simp)) | (simp [*]; done)), H', ⟨by have := l2.out; have := n2.out; first | omega | exact Nat.le_refl _⟩, by repeat (first | exact Drawn0.refl _ | apply Drawn0.step)⟩
            case rest =>
             clear l5; (try clear c4); (try clear g6); (try clear g7); (try clear c5); (try clear h6); (try clear c6); (try clear g8); (try clear g9); (try clear c9); (try clear h8); (try clear h9); (try clear c8); (try clear j5); (try clear d1); (try clear d2); (try clear d3); (try clear j8); (try clear m3)
             obtain ⟨kq, b8, rfl, HA, m7, ⟨mc24, rfl⟩⟩ := hcut
             cases kq with
             | zero => exact absurd HA.out (by simp [bits_Div64.j4])
             | succ kj24 =>
              have H := HA.out; clear HA
              simp only [bits_Div64.j4] at H
              by_cases n3 : b8 = true
              ·subst n3
               have H1 : (if (IntKind.u64.wrap (b7 + ((a3) / 4294967296))) ≥ 4294967296 then (if 0 ≤ a6 then (some (IntKind.u64.wrap ((IntKind.u64.wrap (a5 * 4294967296)) + (IntKind.u64.wrap (a9 - 1))), shr .u64 (IntKind.u64.wrap ((IntKind.u64.wrap ((IntKind.u64.wrap ((IntKind.u64.wrap ((IntKind.u64.wrap ((IntKind.u64.wrap ((Go.bits .or .u64 (a8) (b0)) * 4294967296)) + ((a7) / 4294967296))) - (IntKind.u64.wrap (a5 * a3)))) * 4294967296)) + (Go.bits .and .u64 (a7) 4294967295))) - (IntKind.u64.wrap ((IntKind.u64.wrap (a9 - 1)) * a3)))) a6)) else (none)) else (bits_Div64.l1 kj24 a3 a6 ((a3) / 4294967296) (Go.bits .and .u64 (a3) 4294967295) (Go.bits .and .u64 (a7) 4294967295) a5 (IntKind.u64.wrap (b7 + ((a3) / 4294967296))) (IntKind.u64.wrap ((IntKind.u64.wrap ((IntKind.u64.wrap ((Go.bits .or .u64 (a8) (b0)) * 4294967296)) + ((a7) / 4294967296))) - (IntKind.u64.wrap (a5 * a3)))) (IntKind.u64.wrap (a9 - 1)))) = some (r1, r2) := by rw [if_pos rfl] at H; exact H
               clear H
               have H := H1
               clear H1; by_cases m5 : (IntKind.u64.wrap (b7 + ((a3) / 4294967296))) ≥ 4294967296
               ·rw [if_pos m5] at H; have m8 : decide (4294967296 ≤ (IntKind.u64.wrap (b7 + ((a3) / 4294967296)))) = true := decide_eq_true m5; clear m5; by_cases m9 : 0 ≤ a6
                ·rw [if_pos m9] at H
                 have p5 := eq_true m9
                 have p6 : decide (0 ≤ a6) = true := decide_eq_true m9; clear m9
                 obtain ⟨l6, d6⟩ : ∃ j_ : Int, (shr .u64 (IntKind.u64.wrap ((IntKind.u64.wrap ((IntKind.u64.wrap ((IntKind.u64.wrap ((IntKind.u64.wrap ((IntKind.u64.wrap ((Go.bits .or .u64 (a8) (b0)) * 4294967296)) + ((a7) / 4294967296))) - (IntKind.u64.wrap (a5 * a3)))) * 4294967296)) + (Go.bits .and .u64 (a7) 4294967295))) - (IntKind.u64.wrap ((IntKind.u64.wrap (a9 - 1)) * a3)))) a6) = j_ := ⟨_, rfl⟩
                 replace H : (some (IntKind.u64.wrap ((IntKind.u64.wrap (a5 * 4294967296)) + (IntKind.u64.wrap (a9 - 1))), l6)) = some (r1, r2) := by first | (rw [d6] at H; exact H) | (simp only [d6] at H ⊢; exact H)
                 have o1 : ((IntKind.u64.wrap ((IntKind.u64.wrap ((IntKind.u64.wrap ((IntKind.u64.wrap ((IntKind.u64.wrap ((IntKind.u64.wrap ((Go.bits .or .u64 (a8) (b0)) * 4294967296)) + ((a7) / 4294967296))) - (IntKind.u64.wrap (a5 * a3)))) * 4294967296)) + (Go.bits .and .u64 (a7) 4294967295))) - (IntKind.u64.wrap ((IntKind.u64.wrap (a9 - 1)) * a3)))) / 2 ^ min a6.toNat 64) = l6 := d6
                 have hji30z : a6 ≤ 64 → ((IntKind.u64.wrap ((IntKind.u64.wrap ((IntKind.u64.wrap ((IntKind.u64.wrap ((IntKind.u64.wrap ((IntKind.u64.wrap ((Go.bits .or .u64 (a8) (b0)) * 4294967296)) + ((a7) / 4294967296))) - (IntKind.u64.wrap (a5 * a3)))) * 4294967296)) + (Go.bits .and .u64 (a7) 4294967295))) - (IntKind.u64.wrap ((IntKind.u64.wrap (a9 - 1)) * a3)))) / 2 ^ a6.toNat) = l6 := shr_small d6
                 simp only [Option.some.injEq, Prod.mk.injEq] at H
                 obtain ⟨rfl, rfl⟩ := H; go_wp2
                 repeat (go_quiet (fail); try go_wp2)
                 go_ret2
                 exact ⟨by first | rfl | (simp; done) | (simp only [← h7, ← b1, ← b3, ← d0, ← b4, ← b5, ← d6] <;> (first | rfl | simp)) | (simp [*]; done), by repeat (first | exact Drawn0.refl _ | apply Drawn0.step)⟩
                ·rw [if_neg m9] at H
                 exact absurd H (by simp)
               ·rw [if_neg m5] at H; have m8 : decide (4294967296 ≤ (IntKind.u64.wrap (b7 + ((a3) / 4294967296)))) = false := decide_eq_false m5; clear m5
                have H' := mk_ H
                clear H; go_wp2
                repeat (go_quiet (fail); try go_wp2)
                go_roundg kj24
                case measure => have := l2.out; have := n2.out; have := m7.out; omega
                case rel => exact ⟨(IntKind.u64.wrap (b7 + ((a3) / 4294967296))), (IntKind.u64.wrap (a9 - 1)), (by first | rfl | (simp; done) | (simp only [← b1] <;> (first | rfl | simp)) | (simp [*]; done)), rf_, H', ⟨by have := l2.out; have := n2.out; have := m7.out; omega⟩, by repeat (first | exact Drawn0.refl _ | apply Drawn0.step)⟩
              ·replace n3 := Bool.eq_false_iff.mpr n3; subst n3
               have H1 : (if 0 ≤ a6 then (some (IntKind.u64.wrap ((IntKind.u64.wrap (a5 * 4294967296)) + a9), shr .u64 (IntKind.u64.wrap ((IntKind.u64.wrap ((IntKind.u64.wrap ((IntKind.u64.wrap ((IntKind.u64.wrap ((IntKind.u64.wrap ((Go.bits .or .u64 (a8) (b0)) * 4294967296)) + ((a7) / 4294967296))) - (IntKind.u64.wrap (a5 * a3)))) * 4294967296)) + (Go.bits .and .u64 (a7) 4294967295))) - (IntKind.u64.wrap (a9 * a3)))) a6)) else (none)) = some (r1, r2) := by rw [if_neg (show ¬ (false = true) by decide)] at H; exact H
               clear H
               have H := H1
               clear H1; by_cases n0 : 0 ≤ a6
               ·rw [if_pos n0] at H
                have p7 := eq_true n0
                have p8 : decide (0 ≤ a6) = true := decide_eq_true n0; clear n0
                obtain ⟨l7, d7⟩ : ∃ j_ : Int, (shr .u64 (IntKind.u64.wrap ((IntKind.u64.wrap ((IntKind.u64.wrap ((IntKind.u64.wrap ((IntKind.u64.wrap ((IntKind.u64.wrap ((Go.bits .or .u64 (a8) (b0)) * 4294967296)) + ((a7) / 4294967296))) - (IntKind.u64.wrap (a5 * a3)))) * 4294967296)) + (Go.bits .and .u64 (a7) 4294967295))) - (IntKind.u64.wrap (a9 * a3)))) a6) = j_ := ⟨_, rfl⟩
                replace H : (some (IntKind.u64.wrap ((IntKind.u64.wrap (a5 * 4294967296)) + a9), l7)) = some (r1, r2) := by first | (rw [d7] at H; exact H) | (simp only [d7] at H ⊢; exact H)
                have o2 : ((IntKind.u64.wrap ((IntKind.u64.wrap ((IntKind.u64.wrap ((IntKind.u64.wrap ((IntKind.u64.wrap ((IntKind.u64.wrap ((Go.bits .or .u64 (a8) (b0)) * 4294967296)) + ((a7) / 4294967296))) - (IntKind.u64.wrap (a5 * a3)))) * 4294967296)) + (Go.bits .and .u64 (a7) 4294967295))) - (IntKind.u64.wrap (a9 * a3)))) / 2 ^ min a6.toNat 64) = l7 := d7
                have hji32z : a6 ≤ 64 → ((IntKind.u64.wrap ((IntKind.u64.wrap ((IntKind.u64.wrap ((IntKind.u64.wrap ((IntKind.u64.wrap ((IntKind.u64.wrap ((Go.bits .or .u64 (a8) (b0)) * 4294967296)) + ((a7) / 4294967296))) - (IntKind.u64.wrap (a5 * a3)))) * 4294967296)) + (Go.bits .and .u64 (a7) 4294967295))) - (IntKind.u64.wrap (a9 * a3)))) / 2 ^ a6.toNat) = l7 := shr_small d7
                simp only [Option.some.injEq, Prod.mk.injEq] at H
                obtain ⟨rfl, rfl⟩ := H; go_wp2
                repeat (go_quiet (fail); try go_wp2)
                go_ret2
                exact ⟨by first | rfl | (simp; done) | (simp only [← h7, ← b1, ← b3, ← d0, ← b4, ← b5, ← d7] <;> (first | rfl | simp)) | (simp [*]; done), by repeat (first | exact Drawn0.refl _ | apply Drawn0.step)⟩
               ·rw [if_neg n0] at H
                exact absurd H (by simp)
     ·rw [if_neg j5] at H
      exact absurd H (by simp)
    ·rw [if_neg c9] at H
     exact absurd H (by simp)

/-! ### bits_Rem64: function 127 -/
def bits_Rem64.f (k : Nat) (a0 : Int) (a1 : Int) (a2 : Int) : Option (Int) := if a2 = 0 then (none) else ((bits_Div64.f k (Int.tmod a0 a2) a1 a2).bind fun j0 => (some j0.2))
theorem bits_Rem64.mono : ∀ a0 a1 a2 k, LeO (bits_Rem64.f k a0 a1 a2) (bits_Rem64.f (k + 1) a0 a1 a2) := by
 intro a0 a1 a2 k
 unfold bits_Rem64.f
 repeat' first
   | (with_reducible exact bits_Div64.mono _ _ _ _)
   | (with_reducible exact LeO.refl _)
   | (with_reducible exact LeO.none _)
   | (with_reducible refine LeO.ite ?_ ?_)
   | (with_reducible refine LeO.bind ?_ (fun _ => ?_))
   | exact bits_Div64.mono _ _ _ _
   | exact LeO.none _
   | refine LeO.ite ?_ ?_
   | refine LeO.bind ?_ (fun _ => ?_)
set_option maxHeartbeats 8000000 in
set_option maxRecDepth 100000 in
theorem bits_Rem64.calls (k : Nat) (a0 : Int) (a1 : Int) (a2 : Int) (r : Int) (w : World) (h : bits_Rem64.f k a0 a1 a2 = some r) :
  Calls Try.prog 127 #[.int .u64 a0, .int .u64 a1, .int .u64 a2] w fun e w' => e = .returned (.int .u64 r) ∧ Drawn0 w w' := by
 have H : (if a2 = 0 then (none) else ((bits_Div64.f k (Int.tmod a0 a2) a1 a2).bind fun j0 => (some j0.2))) = some r := h
 clear h; by_cases c4 : a2 = 0
 ·rw [if_pos c4] at H
  exact absurd H (by simp)
 ·rw [if_neg c4] at H; have g6 : (a2 == 0) = false := beq_eq_false_iff_ne.mpr c4; have g7 : (a2 != 0) = true := bne_iff_ne.mpr c4; replace H := Option.bind_eq_some_iff.mp H; obtain ⟨⟨o3, o4⟩, p9, H⟩ := H; (try dsimp only at H); have A5 := mk_ p9; clear p9; obtain rfl := Option.some.inj H
  go_enter Try.func127, Try.ntmps127
  go_wp2_with (first | ((with_reducible refine gc_ 128 rfl ?_); refine gl_ (some 15) rfl Try.func128 #[.int .u64 (Int.tmod a0 a2), .int .u64 a1, .int .u64 a2] ?_; (with_reducible refine (bits_Div64.calls k (Int.tmod a0 a2) a1 a2 o3 o4 _ A5.out).mono ?_); rintro e w' ⟨rfl, ⟨nd, rfl⟩⟩; refine ⟨_, rfl, ?_⟩))
  go_ret
  exact ⟨by first | rfl | (simp; done) | (simp [*]; done), by repeat (first | exact Drawn0.refl _ | apply Drawn0.step)⟩

end Go.Proofs.Ytnphbpkpjinddaa.QFnCycles
-- squeezed
