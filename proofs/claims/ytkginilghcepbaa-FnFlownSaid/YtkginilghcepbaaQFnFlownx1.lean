/- Lean functions that tell what the Go functions used by one law answer, and for each a proof that the Go code comes to just these answers; no condition. Printed by this session's own program over the kit's printer. -/
import Derived.Test.YtkginilghcepbaaWSq
import Derived.Test.YtkginilghcepbaaQFnFlownx0
namespace Go.Proofs.Ytkginilghcepbaa.QFnFlown
open Go.RowKit Go.Proofs.YtkginilghcepbaaW.PrintWords Go.Proofs.YtkginilghcepbaaW.PrintLast Go.Proofs.YtkginilghcepbaaW.PrintMore
attribute [local go_sem] max2_int min2_int max_two min_two max_three min_three max_four min_four   -- for this text's walks alone
attribute [local go_sem high] go_eql go_neq go_lss go_leq go_gtr go_geq go_store   -- for this text's walks alone
set_option linter.unusedVariables false
set_option linter.unusedSimpArgs false

theorem eqA60 (d : Nat) (w : World) (x0 y0 : Nat) (x1 y1 : Nat) (x2 y2 : Nat) (x3 y3 : Nat) :
  (Op.equalIn (d + 2) 60 (.agg #[.float .f64 x0, .float .f64 x1, .float .f64 x2, .float .f64 x3]) (.agg #[.float .f64 y0, .float .f64 y1, .float .f64 y2, .float .f64 y3])).run Try.prog w = .ok (fcmp .eql .f64 (cn .f64 x0) (cn .f64 y0) && (fcmp .eql .f64 (cn .f64 x1) (cn .f64 y1) && (fcmp .eql .f64 (cn .f64 x2) (cn .f64 y2) && (fcmp .eql .f64 (cn .f64 x3) (cn .f64 y3))))) w := by
 refine eqA_of Try.underlying60 (by kernel_rfl) ?_
 refine eqf_cons (by rfl) (by go_simp) (by go_simp) (eqFl_ (k' := .f64) (by kernel_rfl)) ?_
 refine eqf_cons (by rfl) (by go_simp) (by go_simp) (eqFl_ (k' := .f64) (by kernel_rfl)) ?_
 refine eqf_cons (by rfl) (by go_simp) (by go_simp) (eqFl_ (k' := .f64) (by kernel_rfl)) ?_
 exact eqf_last (by rfl) (by go_simp) (by go_simp) (eqFl_ (k' := .f64) (by kernel_rfl))
end Go.Proofs.Ytkginilghcepbaa.QFnFlown
-- squeezed
