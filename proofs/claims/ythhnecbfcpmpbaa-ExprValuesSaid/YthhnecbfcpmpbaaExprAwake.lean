/- What must come at any rate, comes. -/
import Derived.Test.YthhnecbfcpmpbaaExprA
import Derived.Test.YthhnecbfcpmpbaaPAx6
namespace Go.Proofs.Ythhnecbfcpmpbaa.Expr
open Go.RowKit Go.Proofs.Ythhnecbfcpmpbaa.PA Go.Proofs.YthhnecbfcpmpbaaW.PrintWords Go.Proofs.YthhnecbfcpmpbaaW.PrintLast Go.Proofs.YthhnecbfcpmpbaaW.PrintMore
theorem awake_ev : Ev (fun k => surmiselaw03_awake.f k) true := Ev.of surmiselaw03_awake.mono (k := 60) (by kernel_rfl)
end Go.Proofs.Ythhnecbfcpmpbaa.Expr
