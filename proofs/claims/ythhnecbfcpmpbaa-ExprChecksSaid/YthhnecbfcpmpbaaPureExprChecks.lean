/- Proved: for every list of instructions and every two numbers of variables and arguments, the program's Check answers as the reference's.
   Conditions: none beyond the row's own. -/
import Derived.Test.YthhnecbfcpmpbaaExprAwake
import Derived.Test.YthhnecbfcpmpbaaSaidExprChecks
namespace Go.Proofs.Ythhnecbfcpmpbaa.Pure
open Go.RowKit Go.Proofs.Ythhnecbfcpmpbaa.PA Go.Proofs.YthhnecbfcpmpbaaW.PrintWords Go.Proofs.Ythhnecbfcpmpbaa.Expr
theorem ExprChecks : Go.Proofs.Ythhnecbfcpmpbaa.SaidExprChecks.surmiselaw03_ExprChecks.Pure := by
  intro x0 x1 x2 _ _ _
  refine Ev.rounds (g := fun k => surmiselaw03_ExprChecks.f k x0 x1 x2) ?_
  simp only [surmiselaw03_ExprChecks.f]
  refine Ev.bind (check_ev x0 x1 x2) (Ev.bind (check_ref_ev x0 x1 x2) (Ev.bind awake_ev ?_))
  simp only [if_true, beq_self_eq_true]
  exact Ev.now _
end Go.Proofs.Ythhnecbfcpmpbaa.Pure
