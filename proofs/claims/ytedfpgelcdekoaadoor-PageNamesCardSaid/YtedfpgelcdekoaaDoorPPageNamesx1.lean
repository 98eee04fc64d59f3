-- By gp.py, a program of this session: the print of the kit with contracts of this session's own beside it.
import Derived.Test.YtedfpgelcdekoaaDoorPPageNamesx0
namespace Go.Proofs.YtedfpgelcdekoaaDoor.PPageNames
open Go.RowKit Go.Proofs.YtedfpgelcdekoaaDoor.Gp Go.Proofs.YtedfpgelcdekoaaDoorW.PrintWords Go.Proofs.YtedfpgelcdekoaaDoorW.PrintLast Go.Proofs.YtedfpgelcdekoaaDoorW.PrintMore
attribute [local go_sem] max2_int min2_int max_two min_two max_three min_three max_four min_four gp_gtr gp_leq gp_geq   -- for this text's walks alone
set_option linter.unusedVariables false
set_option linter.unusedSimpArgs false

theorem eqA36 (d : Nat) (w : World) (x0 y0 : Int) (x1 y1 : Int) :
    (Op.equalIn (d + 2) 36 (.agg #[.int .i64 x0, .int .i64 x1]) (.agg #[.int .i64 y0, .int .i64 y1])).run Tryd.prog w = .ok (x0 == y0 && (x1 == y1)) w := by
  refine eqA_of Tryd.underlying36 (by kernel_rfl) ?_
  refine eqf_cons (by rfl) (by go_simp; rfl) (by go_simp; rfl) (by go_simp) ?_
  exact eqf_last (by rfl) (by go_simp; rfl) (by go_simp; rfl) (by go_simp)
end Go.Proofs.YtedfpgelcdekoaaDoor.PPageNames
