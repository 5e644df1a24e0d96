/- Proved: for every list of instructions and all lists of variables and arguments, the program's Eval answers as the reference's.
   Conditions: none beyond the row's own. -/
import Derived.Test.YthhnecbfcpmpbaaExprAwake
import Derived.Test.YthhnecbfcpmpbaaExprC
import Derived.Test.YthhnecbfcpmpbaaSaidExprEvals
namespace Go.Proofs.Ythhnecbfcpmpbaa.Pure
open Go.RowKit Go.Proofs.Ythhnecbfcpmpbaa.PA Go.Proofs.YthhnecbfcpmpbaaW.PrintWords Go.Proofs.Ythhnecbfcpmpbaa.Expr
theorem ExprEvals : Go.Proofs.Ythhnecbfcpmpbaa.SaidExprEvals.surmiselaw03_ExprEvals.Pure := by
  intro x0 x1 x2 _ h1 h2
  have l1 : (x1.length : Int) < 9223372036854775807 := by have := h1.2.1; omega
  have l2 : (x2.length : Int) < 9223372036854775807 := by have := h2.2.1; omega
  refine Ev.rounds (g := fun k => surmiselaw03_ExprEvals.f k x0 x1 x2) ?_
  simp only [surmiselaw03_ExprEvals.f]
  refine Ev.bind (eval_ev x0 x1 x2 l1 l2) (Ev.bind (eval_ref_ev x0 x1 x2 l1 l2) (Ev.bind awake_ev ?_))
  simp only [if_true, beq_self_eq_true]
  exact Ev.now _
end Go.Proofs.Ythhnecbfcpmpbaa.Pure
