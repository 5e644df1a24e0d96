/- Proved: for every list of instructions the program's Uses and Depth answer as the reference's.
   Conditions: none beyond the row's own. -/
import Derived.Test.YthhnecbfcpmpbaaExprAwake
import Derived.Test.YthhnecbfcpmpbaaExprD
import Derived.Test.YthhnecbfcpmpbaaSaidExprUses
namespace Go.Proofs.Ythhnecbfcpmpbaa.Pure
open Go.RowKit Go.Proofs.Ythhnecbfcpmpbaa.PA Go.Proofs.YthhnecbfcpmpbaaW.PrintWords Go.Proofs.Ythhnecbfcpmpbaa.Expr
theorem ExprUses : Go.Proofs.Ythhnecbfcpmpbaa.SaidExprUses.surmiselaw03_ExprUses.Pure := by
  intro x0 h
  have l1 : (x0.length : Int) < 140737488355328 := by have := h.2.1; omega
  have l2 : (x0.length : Int) < 9223372036854775807 := by omega
  have u6 := topS_lt 2 6 (by omega) x0 (-1) (by omega)
  have u4 := topS_lt 3 4 (by omega) x0 (-1) (by omega)
  refine Ev.rounds (g := fun k => surmiselaw03_ExprUses.f k x0) ?_
  simp only [surmiselaw03_ExprUses.f]
  refine Ev.bind (uses_ev x0 l2) (Ev.bind awake_ev ?_)
  simp only [if_true]
  refine Ev.bind (ref_uses_ev x0 l2 2 6 (by omega) (by omega)) (Ev.bind (bools_ev _ (by rw [usesS_len]; omega)) ?_)
  simp only [if_true]
  refine Ev.bind (ref_uses_ev x0 l2 3 4 (by omega) (by omega)) (Ev.bind (bools_ev _ (by rw [usesS_len]; omega)) ?_)
  simp only [if_true]
  refine Ev.bind (depth_ev x0 l1) (Ev.bind (ref_depth_ev x0 l1) ?_)
  simp only [beq_self_eq_true]
  exact Ev.now _
end Go.Proofs.Ythhnecbfcpmpbaa.Pure
