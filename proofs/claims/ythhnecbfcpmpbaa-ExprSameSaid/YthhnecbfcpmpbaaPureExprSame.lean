/- Proved: for every list of instructions and all lists of variables and arguments: what is folded is not longer, comes to the same, and folded once more it stays.
   Conditions: none beyond the row's own. -/
import Derived.Test.YthhnecbfcpmpbaaExprAwake
import Derived.Test.YthhnecbfcpmpbaaExprE
import Derived.Test.YthhnecbfcpmpbaaSaidExprSame
namespace Go.Proofs.Ythhnecbfcpmpbaa.Pure
open Go.RowKit Go.Proofs.Ythhnecbfcpmpbaa.PA Go.Proofs.YthhnecbfcpmpbaaW.PrintWords Go.Proofs.Ythhnecbfcpmpbaa.Expr
theorem ExprSame : Go.Proofs.Ythhnecbfcpmpbaa.SaidExprSame.surmiselaw03_ExprSame.Pure := by
  intro x0 x1 x2 h0 h1 h2
  have l0 : x0.length < 8796093022208 := by have := h0.2.1; omega
  have l1 : (x1.length : Int) < 9223372036854775807 := by have := h1.2.1; omega
  have l2 : (x2.length : Int) < 9223372036854775807 := by have := h2.2.1; omega
  have hlen := foldS_len x0
  refine Ev.rounds (g := fun k => surmiselaw03_ExprSame.f k x0 x1 x2) ?_
  simp only [surmiselaw03_ExprSame.f]
  refine Ev.bind (fold_ev x0 l0) (Ev.bind (eval_ev x0 x1 x2 l1 l2) (Ev.bind (eval_ev (foldS x0) x1 x2 l1 l2) (Ev.bind awake_ev ?_)))
  have hle : ((foldS x0).length : Int) ≤ (x0.length : Int) := by omega
  simp only [if_true, if_pos hle]
  refine Ev.bind (fold_ev (foldS x0) (by omega)) ?_
  rw [fold_again]
  refine Ev.bind (same_ev (foldS x0) (by omega)) ?_
  simp only [if_true, eval_fold, beq_self_eq_true]
  by_cases c : (evalS x0 x1 x2).2 = 0
  · simp only [if_pos c]; exact Ev.now _
  · simp only [if_neg c]; exact Ev.now _
end Go.Proofs.Ythhnecbfcpmpbaa.Pure
