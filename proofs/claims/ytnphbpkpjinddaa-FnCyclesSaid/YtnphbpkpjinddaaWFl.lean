/- Floats up to the bits of a NaN: what a float's operations answer as plain functions, and the steps of the walk that carry them out. No condition of its own. -/
import Derived.Deep.Draws
import Derived.Laws.FloatArith
import Derived.Laws.Externs
import Derived.Test.YtnphbpkpjinddaaWWords
import Derived.Test.YtnphbpkpjinddaaWLast
import Derived.Test.YtnphbpkpjinddaaWMore
import Derived.Test.YtnphbpkpjinddaaWGuard
import Derived.Test.YtnphbpkpjinddaaWFoot
namespace Go.Proofs.YtnphbpkpjinddaaW.PrintWords
open Go.RowKit
set_option linter.unusedVariables false

/-- A float up to the bits of a NaN: 'none' is a NaN. -/
abbrev Fl := Option Nat
/-- What bits stand for. -/
def cn (k : FloatKind) (b : Nat) : Fl := if (k.format.read b).isNaN = true then none else some b
/-- '+', '-', '*', '/'. -/
def fop (op : BinOp) (k : FloatKind) (x y : Fl) : Fl := x.bind fun a => y.bind fun b => (floatBits op k a b).bind fun r => cn k r
def ford (k : FloatKind) (x y : Fl) : Option Ordering := x.bind fun a => y.bind fun b => k.format.order a b
/-- A comparison. -/
def fcmp (op : BinOp) (k : FloatKind) (x y : Fl) : Bool := match op with
  | .eql => ford k x y == some .eq
  | .neq => ford k x y != some .eq
  | .lss => ford k x y == some .lt
  | .leq => ford k x y == some .lt || ford k x y == some .eq
  | .gtr => ford k x y == some .gt
  | .geq => ford k x y == some .gt || ford k x y == some .eq
  | _ => false
def fneg (k : FloatKind) (x : Fl) : Fl := x.bind fun a => cn k (Op.negFloat k a)
/-- A whole number as a float. -/
def fint (k : FloatKind) (n : Int) : Fl := cn k (k.nearest n)
/-- A float32 as a float64. -/
def fwide (x : Fl) : Fl := x.bind fun a => cn .f64 (FloatKind.f64.encode (FloatKind.f32.decode a))

theorem cn_some {k : FloatKind} {b a : Nat} (h : cn k b = some a) : a = b ∧ (k.format.read b).isNaN = false := by
  unfold cn at h
  split at h
  · cases h
  · rename_i hn
    exact ⟨(Option.some.inj h).symm, by simpa using hn⟩
theorem cn_none {k : FloatKind} {b : Nat} (h : cn k b = none) : (k.format.read b).isNaN = true := by
  unfold cn at h
  split at h
  · assumption
  · cases h
theorem isNaN_nan {d : Ieee.Datum} (h : d.isNaN = true) : ∃ s t, d = .nan s t := by
  cases d with
  | nan s t => exact ⟨s, t, rfl⟩
  | number => cases h
  | infinity => cases h
theorem sum_nan {x y : Ieee.Datum} (h : x.isNaN = true ∨ y.isNaN = true) : x.sum y = none := by
  rcases h with h | h <;> obtain ⟨s, t, rfl⟩ := isNaN_nan h
  · rfl
  · cases x <;> rfl
theorem product_nan {x y : Ieee.Datum} (h : x.isNaN = true ∨ y.isNaN = true) : x.product y = none := by
  rcases h with h | h <;> obtain ⟨s, t, rfl⟩ := isNaN_nan h
  · rfl
  · cases x <;> rfl
theorem quotient_nan {n : Nat} {x y : Ieee.Datum} (h : x.isNaN = true ∨ y.isNaN = true) : x.quotient n y = none := by
  rcases h with h | h <;> obtain ⟨s, t, rfl⟩ := isNaN_nan h
  · rfl
  · cases x <;> rfl
theorem order_nan {x y : Ieee.Datum} (h : x.isNaN = true ∨ y.isNaN = true) : x.order y = none := by
  rcases h with h | h <;> obtain ⟨s, t, rfl⟩ := isNaN_nan h
  · rfl
  · cases x <;> rfl
theorem opposite_nan {x : Ieee.Datum} : x.opposite.isNaN = x.isNaN := by cases x <;> rfl
theorem floatBits_nan {op : BinOp} {k : FloatKind} {a b : Nat} (h : (k.format.read a).isNaN = true ∨ (k.format.read b).isNaN = true) : floatBits op k a b = none := by
  unfold floatBits
  split
  · unfold Ieee.Format.add; rw [sum_nan h]; rfl
  · unfold Ieee.Format.sub; rw [sum_nan (by rw [opposite_nan]; exact h)]; rfl
  · unfold Ieee.Format.mul; rw [product_nan h]; rfl
  · unfold Ieee.Format.div; rw [quotient_nan h]; rfl
  · rfl
theorem cn_not {k : FloatKind} {b : Nat} (h : (k.format.read b).isNaN = false) : cn k b = some b := by
  unfold cn
  rw [h]
  rfl
theorem fop_cn (op : BinOp) (k : FloatKind) (a b : Nat) : fop op k (cn k a) (cn k b) = (floatBits op k a b).bind fun r => cn k r := by
  unfold fop
  cases ha : (k.format.read a).isNaN with
  | true =>
    rw [floatBits_nan (.inl ha)]
    simp [cn, ha]
  | false =>
    rw [cn_not ha]
    cases hb : (k.format.read b).isNaN with
    | true =>
      rw [floatBits_nan (.inr hb)]
      simp [cn, hb]
    | false => rw [cn_not hb]; rfl
theorem ford_cn (k : FloatKind) (a b : Nat) : ford k (cn k a) (cn k b) = k.format.order a b := by
  unfold ford Ieee.Format.order
  cases ha : (k.format.read a).isNaN with
  | true =>
    rw [order_nan (.inl ha)]
    simp [cn, ha]
  | false =>
    rw [cn_not ha]
    cases hb : (k.format.read b).isNaN with
    | true =>
      rw [order_nan (.inr hb)]
      simp [cn, hb]
    | false => rw [cn_not hb]; rfl
theorem cn_nanBits (k : FloatKind) (q : Question) (hq : (∃ x y, q = .nanBits k x y) ∨ ∃ x, q = .nanConv k x) (t : Nat) : cn k (q.cut t) = none := by
  have key : ((k.format.read (q.cut t)).isNaN) = true := by
    rcases hq with ⟨x, y, rfl⟩ | ⟨x, rfl⟩ <;> cases k <;> simp only [Question.cut, FloatKind.format]
    all_goals
      first
        | (show (Ieee.single.read _).isNaN = true
           have h1 : (t % 2) * 2 ^ 31 + 0x7f800000 + 1 + (t / 2) % (2 ^ 23 - 1) = (t % 2) * 2147483648 + (2139095041 + (t / 2) % 8388607) := by omega
           rw [h1]
           have h2 : (t % 2 * 2147483648 + (2139095041 + t / 2 % 8388607)) % Ieee.single.signWeight = 2139095041 + t / 2 % 8388607 := by
             show _ % 2147483648 = _
             omega
           unfold Ieee.Format.read
           simp only [h2]
           have e1 : Ieee.single.binade = 8388608 := rfl
           have e2 : Ieee.single.infRung = 2139095040 := rfl
           rw [e1, e2, if_neg (by omega), if_neg (by omega), if_neg (by omega)]
           rfl)
        | (show (Ieee.double.read _).isNaN = true
           have h1 : (t % 2) * 2 ^ 63 + 0x7ff0000000000000 + 1 + (t / 2) % (2 ^ 52 - 1) = (t % 2) * 9223372036854775808 + (9218868437227405313 + (t / 2) % 4503599627370495) := by omega
           rw [h1]
           have h2 : (t % 2 * 9223372036854775808 + (9218868437227405313 + t / 2 % 4503599627370495)) % Ieee.double.signWeight = 9218868437227405313 + t / 2 % 4503599627370495 := by
             show _ % 9223372036854775808 = _
             omega
           unfold Ieee.Format.read
           simp only [h2]
           have e1 : Ieee.double.binade = 4503599627370496 := rfl
           have e2 : Ieee.double.infRung = 9218868437227405312 := rfl
           rw [e1, e2, if_neg (by omega), if_neg (by omega), if_neg (by omega)]
           rfl)
  unfold cn
  rw [if_pos key]

/-- An arithmetic operation carried out: some bits that stand for its answer. -/
theorem floatArith_runs (P : Program) (op : BinOp) (t : TypeId) (k : FloatKind) (a b : Nat) (W : World) (hop : op = .add ∨ op = .sub ∨ op = .mul ∨ op = .quo) :
    ∃ r n, cn k r = fop op k (cn k a) (cn k b) ∧ (binOp op t (.float k a) (.float k b)).run P W = .ok (.float k r) (W.drewN n) := by
  rw [fop_cn]
  cases h : floatBits op k a b with
  | some r => exact ⟨r, 0, rfl, run_float_arith W op t k a b r h⟩
  | none =>
    refine ⟨(Question.nanBits k a b).cut (W.tape W.drawn (.nanBits k a b)), 1, ?_, ?_⟩
    · rw [cn_nanBits k _ (.inl ⟨a, b, rfl⟩)]; rfl
    · rcases hop with rfl | rfl | rfl | rfl <;> unfold floatBits at h <;> simp only at h <;> simp [binOp, Op.floatArith, h, choose, Sem.run, Question.forced, World.drewN, bind, Sem.bind, pure]

section
variable {P : Program} {ops : Array Oper} {rest : List Oper} {o : Oper} {a : Act} {Q : Exit → Act → World → Prop} {W : World}
theorem eqGuard_float {op : BinOp} {t : TypeId} {x y : Operand} {k k' : FloatKind} {b b' : Nat} : (eqGuard op t x y (.float k b) (.float k' b')).run P W = .ok () W := by
  unfold eqGuard
  cases op <;> simp [pure]
theorem exec_bin {op : BinOp} {t ty : TypeId} {x y : Operand} {k : FloatKind} {bx by_ : Nat} (ho : o.op = .binOp op t x y ty) (hx : a.eval x = .float k bx) (hy : a.eval y = .float k by_) {v : Value} {W1 : World}
    (h : (binOp op t (.float k bx) (.float k by_)).run P W = .ok v W1) : (execOp a.eval o).run P W = .ok (.value v) W1 := by
  unfold execOp
  rw [ho]
  simp only [hx, hy]
  simp [eqGuard_float, h]
/-- '+', '-', '*', '/' of two floats: some bits that stand for the answer. -/
theorem fop_event (hgd : o.guard = none) {N : Tmp} (_hd : o.dst = some N) {op : BinOp} (hop : op = .add ∨ op = .sub ∨ op = .mul ∨ op = .quo) {t ty : TypeId} {x y : Operand} (ho : o.op = .binOp op t x y ty) (k : FloatKind) (bx by_ : Nat) (X Y : Fl)
    (hx : a.eval x = .float k bx) (hy : a.eval y = .float k by_) (HX : cn k bx = X) (HY : cn k by_ = Y)
    (h : ∀ b n, cn k b = fop op k X Y → wpList P ops Q rest (a.put o.dst (.float k b)) (W.drewN n)) : wpList P ops Q (o :: rest) a W := by
  subst HX HY
  obtain ⟨r, n, hr, hrun⟩ := floatArith_runs P op t k bx by_ W hop
  exact Kd.event_run hgd (exec_bin ho hx hy hrun) (h r n hr)
/-- A comparison of two floats. -/
theorem fcmp_event (hgd : o.guard = none) {N : Tmp} (_hd : o.dst = some N) {op : BinOp} (hop : op = .eql ∨ op = .neq ∨ op = .lss ∨ op = .leq ∨ op = .gtr ∨ op = .geq) {t ty : TypeId} {x y : Operand} (ho : o.op = .binOp op t x y ty) (k : FloatKind) (bx by_ : Nat) (X Y : Fl)
    (hx : a.eval x = .float k bx) (hy : a.eval y = .float k by_) (HX : cn k bx = X) (HY : cn k by_ = Y)
    (h : wpList P ops Q rest (a.put o.dst (.bool (fcmp op k X Y))) W) : wpList P ops Q (o :: rest) a W := by
  subst HX HY
  refine Kd.event_run hgd (exec_bin ho hx hy ?_) h
  rcases hop with rfl | rfl | rfl | rfl | rfl | rfl <;> simp [binOp, Op.floatCmp, fcmp, ford_cn, pure]
theorem cn_neg {k : FloatKind} {b : Nat} : cn k (Op.negFloat k b) = fneg k (cn k b) := by
  have key : (k.format.read (Op.negFloat k b)).isNaN = (k.format.read b).isNaN := by
    have hw : (Op.negFloat k b) % k.format.signWeight = b % k.format.signWeight := by
      unfold Op.negFloat Ieee.Format.signWeight
      rw [Nat.xor_mod_two_pow]
      simp
    unfold Ieee.Format.read
    simp only [hw]
    split
    · rfl
    · split
      · rfl
      · split <;> rfl
  unfold fneg
  cases h : (k.format.read b).isNaN with
  | true => rw [show cn k b = none by simp [cn, h]]; simp [cn, key, h]
  | false => rw [cn_not h]; rfl
theorem fneg_event (hgd : o.guard = none) {N : Tmp} (_hd : o.dst = some N) {t : TypeId} {x : Operand} (ho : o.op = .unOp .neg t x) (k : FloatKind) (bx : Nat) (X : Fl)
    (hx : a.eval x = .float k bx) (HX : cn k bx = X)
    (h : ∀ b n, cn k b = fneg k X → wpList P ops Q rest (a.put o.dst (.float k b)) (W.drewN n)) : wpList P ops Q (o :: rest) a W := by
  subst HX
  refine Kd.event_run (v := .float k (Op.negFloat k bx)) (w1 := W) hgd ?_ (h _ 0 cn_neg)
  unfold execOp
  rw [ho]
  simp [hx, Op.unary, pure]
/-- A whole number as a float. -/
theorem fint_event (hgd : o.guard = none) {N : Tmp} (_hd : o.dst = some N) {s d : TypeId} {x : Operand} (ho : o.op = .convert s d x) (k : FloatKind) (ik : IntKind) (n : Int) (hs : P.underlying s = some (.int ik)) (hd : P.underlying d = some (.float k))
    (hx : a.eval x = .int ik n)
    (h : ∀ b m, cn k b = fint k n → wpList P ops Q rest (a.put o.dst (.float k b)) (W.drewN m)) : wpList P ops Q (o :: rest) a W := by
  refine Kd.event_run (v := .float k (k.nearest n)) (w1 := W) hgd ?_ (h _ 0 rfl)
  unfold execOp
  rw [ho]
  simp [hx, convert, run_underlying hs, run_underlying hd, Conv.intToFloat, pure]
/-- A conversion to the very type. -/
theorem fsame_event (hgd : o.guard = none) {N : Tmp} (_hd : o.dst = some N) {s d : TypeId} {x : Operand} (ho : o.op = .convert s d x) (k : FloatKind) (bx : Nat) (hs : P.underlying s = some (.float k)) (hd : P.underlying d = some (.float k))
    (hx : a.eval x = .float k bx)
    (h : wpList P ops Q rest (a.put o.dst (.float k bx)) W) : wpList P ops Q (o :: rest) a W := by
  refine Kd.event_run (v := .float k bx) (w1 := W) hgd ?_ h
  unfold execOp
  rw [ho]
  simp [hx, convert, run_underlying hs, run_underlying hd, Conv.floatToFloat, pure]
end

/-! The comparisons, as the walk tells them -/
theorem eqFl_ {P : Program} {d : Nat} {t : TypeId} {k k' : FloatKind} {a b : Nat} {w : World} (hu : P.underlying t = some (.float k')) : (Op.equalIn (d + 1) t (.float k a) (.float k b)).run P w = .ok (fcmp .eql k (cn k a) (cn k b)) w := by
  simp [Op.equalIn, Sem.run_bind, run_underlying hu, Result.andThen_ok, Op.floatEq, fcmp, ford_cn]
theorem go_eql (t : TypeId) (k : FloatKind) (a b : Nat) : binOp .eql t (.float k a) (.float k b) = pure (.bool (fcmp .eql k (cn k a) (cn k b))) := by simp [binOp, Op.floatCmp, fcmp, ford_cn]
theorem go_neq (t : TypeId) (k : FloatKind) (a b : Nat) : binOp .neq t (.float k a) (.float k b) = pure (.bool (fcmp .neq k (cn k a) (cn k b))) := by simp [binOp, Op.floatCmp, fcmp, ford_cn]
theorem go_lss (t : TypeId) (k : FloatKind) (a b : Nat) : binOp .lss t (.float k a) (.float k b) = pure (.bool (fcmp .lss k (cn k a) (cn k b))) := by simp [binOp, Op.floatCmp, fcmp, ford_cn]
theorem go_leq (t : TypeId) (k : FloatKind) (a b : Nat) : binOp .leq t (.float k a) (.float k b) = pure (.bool (fcmp .leq k (cn k a) (cn k b))) := by simp [binOp, Op.floatCmp, fcmp, ford_cn]
theorem go_gtr (t : TypeId) (k : FloatKind) (a b : Nat) : binOp .gtr t (.float k a) (.float k b) = pure (.bool (fcmp .gtr k (cn k a) (cn k b))) := by simp [binOp, Op.floatCmp, fcmp, ford_cn]
theorem go_geq (t : TypeId) (k : FloatKind) (a b : Nat) : binOp .geq t (.float k a) (.float k b) = pure (.bool (fcmp .geq k (cn k a) (cn k b))) := by simp [binOp, Op.floatCmp, fcmp, ford_cn]

theorem go_store (P : Program) (w : World) (a : Addr) (m : Mode) (k : FloatKind) (n : Nat) : (store a (.float k n) m).run P w = stored P w a (.float k n) m := run_store P w a _ m rfl

/-! The kind of a float -/
namespace Kd
def fl (k : FloatKind) : Kd Fl where
  sz := 1
  E := []
  K := fun _ x cs => ∃ b, cs = [.float k b] ∧ cn k b = x
  M := fun _ _ _ x cs => ∃ b, cs = [.float k b] ∧ cn k b = x
  K_len := by
    rintro w x cs ⟨b, rfl, _⟩
    rfl
  K_one := by
    rintro w x cs ⟨b, rfl, _⟩ u hu
    rw [List.mem_singleton.1 hu]
    rfl
  K_below := fun _ h => h
  K_of_M := fun h => h
  M_mono := fun _ h => h
  M_bound := fun h => h
  M_move := fun _ h => h
  M_lower := fun _ h => h
theorem heap_fl (k : FloatKind) : Heap (Kd.fl k) := ⟨fun _ h => h⟩
theorem M_fl {k : FloatKind} {w : World} {base : Nat} {ok : Nat → Prop} {b : Nat} {x : Fl} (h : cn k b = x) : (Kd.fl k).M w base ok x [.float k b] := ⟨b, rfl, h⟩
theorem K_fl {k : FloatKind} {w : World} {b : Nat} {x : Fl} (h : cn k b = x) : (Kd.fl k).K w x [.float k b] := ⟨b, rfl, h⟩
end Kd
def rdf (k : FloatKind) (xs : List Fl) (i : Int) : Fl := xs.getD i.toNat (cn k 0)
theorem Kd.at_fl {k : FloatKind} {w : World} {A : Option Addr} {n : Nat} {xs : List Fl} (h : (Kd.fl k).C w A n xs) (i : Int) (h0 : 0 ≤ i) (h1 : i < n) : ∃ ad b, A = some ad ∧ w.cell? (ad.add i.toNat) = some (.float k b) ∧ cn k b = rdf k xs i := by
  obtain ⟨ad, c, e, _, hK, hc0⟩ := Kd.C_get h (cn k 0) i h0 h1
  have hc : ∀ j u, c[j]? = some u → w.cell? (ad.add (i.toNat * 1 + j)) = some u := hc0
  obtain ⟨b, rfl, hb⟩ := hK
  exact ⟨ad, b, e, by have hq := hc 0 _ rfl; rwa [Nat.mul_one, Nat.add_zero] at hq, hb⟩

/-! A float32 as a float64: a number stays a number -/
theorem read_word {f : Ieee.Format} {s : Bool} {r : Nat} (h : r < f.infRung) : ∃ s' m e, f.read (f.word s r) = .number s' m e := by
  have h2 : f.infRung < f.signWeight := f.infRung_lt
  have hw : f.word s r % f.signWeight = r := by
    unfold Ieee.Format.word
    split
    · rw [Nat.add_mod_left]; exact Nat.mod_eq_of_lt (by omega)
    · exact Nat.mod_eq_of_lt (by omega)
  unfold Ieee.Format.read
  simp only [hw]
  split
  · exact ⟨_, _, _, rfl⟩
  · first | exact ⟨_, _, _, rfl⟩ | (rw [if_pos h]; exact ⟨_, _, _, rfl⟩)
theorem cut_none (s : Bool) (n : Nat) : Ieee.Toward.even.cut s n 0 = n := by
  unfold Ieee.Toward.cut
  simp [Nat.mod_one]
theorem single_bounds {a : Nat} {s : Bool} {m : Nat} {e : Int} (h : Ieee.single.read a = .number s m e) : m < 16777216 ∧ -149 ≤ e ∧ e ≤ 104 := by
  have e1 : Ieee.single.binade = 8388608 := rfl
  have e2 : Ieee.single.infRung = 2139095040 := rfl
  have e3 : Ieee.single.leastPlace = -149 := rfl
  unfold Ieee.Format.read at h
  simp only [e1, e2, e3] at h
  split at h
  · injection h with h1 h2 h3
    omega
  · split at h
    · injection h with h1 h2 h3
      rw [← h2, ← h3]
      omega
    · split at h <;> cases h
theorem wide_number {s : Bool} {m : Nat} {e : Int} (hm : m < 16777216) (h0 : -149 ≤ e) (h1 : e ≤ 104) : ∃ s' m' e', Ieee.double.read (Ieee.double.write (.number s m e)) = .number s' m' e' := by
  show ∃ s' m' e', Ieee.double.read (Ieee.double.nearest s m e) = .number s' m' e'
  unfold Ieee.Format.nearest
  split
  · exact read_word (by decide)
  · rename_i hz
    have hl : m.log2 < 24 := (Nat.log2_lt hz).2 (by simpa using hm)
    have e3 : Ieee.double.leastPlace = -1074 := rfl
    have e4 : (Ieee.double.fractionBits : Int) = 52 := rfl
    have e5 : Ieee.double.binade = 4503599627370496 := rfl
    have e6 : Ieee.double.infRung = 9218868437227405312 := rfl
    have hlast : max (e + (m.log2 : Int) - (Ieee.double.fractionBits : Int)) Ieee.double.leastPlace = e + (m.log2 : Int) - 52 := by rw [e3, e4]; omega
    dsimp only
    rw [hlast]
    have hd : (e + (m.log2 : Int) - 52 - e).toNat = 0 := by omega
    have hs : (e - (e + (m.log2 : Int) - 52)).toNat = 52 - m.log2 := by omega
    rw [hd, hs, cut_none]
    have hn : m <<< (52 - m.log2) < 9007199254740992 := by
      rw [Nat.shiftLeft_eq]
      have h2 : m < 2 ^ (m.log2 + 1) := Nat.lt_log2_self
      have h3 : m * 2 ^ (52 - m.log2) < 2 ^ (m.log2 + 1) * 2 ^ (52 - m.log2) := Nat.mul_lt_mul_of_pos_right h2 (Nat.two_pow_pos _)
      rw [← Nat.pow_add, show m.log2 + 1 + (52 - m.log2) = 53 by omega] at h3
      simpa using h3
    refine read_word ?_
    rw [e5, e6, e3]
    have : (e + (m.log2 : Int) - 52 - -1074).toNat ≤ 1149 := by omega
    refine Nat.lt_of_le_of_lt (Nat.min_le_left _ _) ?_
    omega
theorem wide_runs (P : Program) (src dst : TypeId) (b : Nat) (W : World) (hs : P.underlying src = some (.float .f32)) (hd : P.underlying dst = some (.float .f64)) :
    ∃ r n, cn .f64 r = fwide (cn .f32 b) ∧ (convert src dst (.float .f32 b)).run P W = .ok (.float .f64 r) (W.drewN n) := by
  cases h : FloatKind.f32.decode b with
  | nan s t =>
    have hN : cn .f32 b = none := by unfold cn; rw [if_pos (show (FloatKind.f32.format.read b).isNaN = true by show (Ieee.single.read b).isNaN = true; rw [show Ieee.single.read b = .nan s t from h]; rfl)]
    refine ⟨(Question.nanConv .f64 b).cut (W.tape W.drawn (.nanConv .f64 b)), 1, ?_, ?_⟩
    · rw [cn_nanBits .f64 _ (.inr ⟨b, rfl⟩), hN]; rfl
    · have e : (Conv.floatToFloat .f32 b .f64).run P W = .ok (.float .f64 ((Question.nanConv .f64 b).cut (W.tape W.drawn (.nanConv .f64 b)))) (W.drewN 1) := by
        unfold Conv.floatToFloat
        rw [if_neg (by decide), h]
        rfl
      simp [convert, run_underlying hs, run_underlying hd, e]
  | infinity s =>
    have hN : cn .f32 b = some b := cn_not (show (Ieee.single.read b).isNaN = false by rw [show Ieee.single.read b = .infinity s from h]; rfl)
    refine ⟨FloatKind.f64.encode (.infinity s), 0, ?_, ?_⟩
    · rw [hN]; show _ = cn .f64 (FloatKind.f64.encode (FloatKind.f32.decode b)); rw [h]
    · simp [convert, run_underlying hs, run_underlying hd, Conv.floatToFloat, h, pure]; rfl
  | number s m e =>
    have hN : cn .f32 b = some b := cn_not (show (Ieee.single.read b).isNaN = false by rw [show Ieee.single.read b = .number s m e from h]; rfl)
    obtain ⟨hm, h0, h1⟩ := single_bounds (show Ieee.single.read b = .number s m e from h)
    obtain ⟨s', m', e', hr⟩ := wide_number (s := s) hm h0 h1
    have hi : (FloatKind.f64.decode (FloatKind.f64.encode (.number s m e))).isInfinity = false := by
      show (Ieee.double.read (Ieee.double.write (.number s m e))).isInfinity = false
      rw [hr]; rfl
    refine ⟨FloatKind.f64.encode (.number s m e), 0, ?_, ?_⟩
    · rw [hN]; show _ = cn .f64 (FloatKind.f64.encode (FloatKind.f32.decode b)); rw [h]
    · simp [convert, run_underlying hs, run_underlying hd, Conv.floatToFloat, h, hi, pure]; rfl
theorem fwide_event {P : Program} {ops : Array Oper} {rest : List Oper} {o : Oper} {a : Act} {Q : Exit → Act → World → Prop} {W : World} (hgd : o.guard = none) {N : Tmp} (_hd : o.dst = some N) {s d : TypeId} {x : Operand} (ho : o.op = .convert s d x) (bx : Nat) (X : Fl) (hs : P.underlying s = some (.float .f32)) (hd : P.underlying d = some (.float .f64))
    (hx : a.eval x = .float .f32 bx) (HX : cn .f32 bx = X)
    (h : ∀ b m, cn .f64 b = fwide X → wpList P ops Q rest (a.put o.dst (.float .f64 b)) (W.drewN m)) : wpList P ops Q (o :: rest) a W := by
  subst HX
  obtain ⟨r, n, hr, hrun⟩ := wide_runs P s d bx W hs hd
  refine Kd.event_run (v := .float .f64 r) (w1 := W.drewN n) hgd ?_ (h r n hr)
  unfold execOp
  rw [ho]
  simp [hx, hrun]

/-! A float64 as a float32, where it is not too great -/
def fnarr (x : Fl) : Option Fl := match x with
  | none => some none
  | some a => match FloatKind.f64.decode a with
    | .nan _ _ => some none
    | .infinity s => some (cn .f32 (FloatKind.f32.encode (.infinity s)))
    | .number s m e => if (FloatKind.f32.decode (FloatKind.f32.encode (.number s m e))).isInfinity = true then none else some (cn .f32 (FloatKind.f32.encode (.number s m e)))
theorem narr_runs (P : Program) (src dst : TypeId) (b : Nat) (Y : Fl) (W : World) (hs : P.underlying src = some (.float .f64)) (hd : P.underlying dst = some (.float .f32)) (hY : fnarr (cn .f64 b) = some Y) :
    ∃ r n, cn .f32 r = Y ∧ (convert src dst (.float .f64 b)).run P W = .ok (.float .f32 r) (W.drewN n) := by
  have nanCase : FloatKind.f64.decode b = .nan (FloatKind.f64.decode b).neg (match FloatKind.f64.decode b with | .nan _ t => t | _ => 0) → ∃ r n, cn .f32 r = (none : Fl) ∧ (convert src dst (.float .f64 b)).run P W = .ok (.float .f32 r) (W.drewN n) := by
    intro h
    refine ⟨(Question.nanConv .f32 b).cut (W.tape W.drawn (.nanConv .f32 b)), 1, cn_nanBits .f32 _ (.inr ⟨b, rfl⟩) _, ?_⟩
    have e : (Conv.floatToFloat .f64 b .f32).run P W = .ok (.float .f32 ((Question.nanConv .f32 b).cut (W.tape W.drawn (.nanConv .f32 b)))) (W.drewN 1) := by
      unfold Conv.floatToFloat
      rw [if_neg (by decide), h]
      rfl
    simp [convert, run_underlying hs, run_underlying hd, e]
  cases h : FloatKind.f64.decode b with
  | nan s t =>
    have hN : cn .f64 b = none := by unfold cn; rw [if_pos (show (FloatKind.f64.format.read b).isNaN = true by show (Ieee.double.read b).isNaN = true; rw [show Ieee.double.read b = .nan s t from h]; rfl)]
    rw [hN] at hY
    obtain rfl : none = Y := Option.some.inj hY
    exact nanCase (by rw [h]; rfl)
  | infinity s =>
    have hN : cn .f64 b = some b := cn_not (show (Ieee.double.read b).isNaN = false by rw [show Ieee.double.read b = .infinity s from h]; rfl)
    rw [hN] at hY
    simp only [fnarr, h, Option.some.injEq] at hY
    refine ⟨FloatKind.f32.encode (.infinity s), 0, hY, ?_⟩
    simp [convert, run_underlying hs, run_underlying hd, Conv.floatToFloat, h, pure]; rfl
  | number s m e =>
    have hN : cn .f64 b = some b := cn_not (show (Ieee.double.read b).isNaN = false by rw [show Ieee.double.read b = .number s m e from h]; rfl)
    rw [hN] at hY
    simp only [fnarr, h] at hY
    split at hY
    · cases hY
    · rename_i hi
      refine ⟨FloatKind.f32.encode (.number s m e), 0, Option.some.inj hY, ?_⟩
      simp [convert, run_underlying hs, run_underlying hd, Conv.floatToFloat, h, hi, pure]; rfl
section
variable {P : Program} {ops : Array Oper} {rest : List Oper} {o : Oper} {a : Act} {Q : Exit → Act → World → Prop} {W : World}
theorem fnarr_event (hgd : o.guard = none) {N : Tmp} (_hd : o.dst = some N) {s d : TypeId} {x : Operand} (ho : o.op = .convert s d x) (bx : Nat) (X Y : Fl) (hs : P.underlying s = some (.float .f64)) (hd : P.underlying d = some (.float .f32))
    (hx : a.eval x = .float .f64 bx) (HX : cn .f64 bx = X) (HY : fnarr X = some Y)
    (h : ∀ b m, cn .f32 b = Y → wpList P ops Q rest (a.put o.dst (.float .f32 b)) (W.drewN m)) : wpList P ops Q (o :: rest) a W := by
  subst HX
  obtain ⟨r, n, hr, hrun⟩ := narr_runs P s d bx Y W hs hd HY
  refine Kd.event_run (v := .float .f32 r) (w1 := W.drewN n) hgd ?_ (h r n hr)
  unfold execOp
  rw [ho]
  simp [hx, hrun]
/-- A call of a function of the library without a body that is told by the model. -/
theorem extern_event (hgd : o.guard = none) {N : Tmp} (_hd : o.dst = some N) {f : FuncId} {fn : Func} {e : Array Value → Sem Value} {as_ : Array Operand} {ts : Array TypeId} (ho : o.op = .call { callee := .value (.func f), args := as_, argTypes := ts })
    (hf : P.funcs[f]? = some fn) (hname : (fn.name == "runtime.NumGoroutine") = false) (hb : fn.body.isNone = true) (hn : Extern.findNext fn = none) (he : Extern.find fn = some e) (args : Array Value) (hargs : as_.map a.eval = args) (v : Value)
    (hrun : (e args).run P W = .ok v W) (h : wpList P ops Q rest (a.put o.dst v) W) : wpList P ops Q (o :: rest) a W := by
  refine Kd.event_run (v := v) (w1 := W) hgd ?_ h
  have hc := run_callFunc_extern (P := P) hf hname hb hn he args W
  rw [hrun] at hc
  unfold execOp
  rw [ho]
  simp [resolve, Deferred.ofValue, invoke, hargs, hc, Result.andThen, Act.eval]
end
end Go.Proofs.YtnphbpkpjinddaaW.PrintWords
