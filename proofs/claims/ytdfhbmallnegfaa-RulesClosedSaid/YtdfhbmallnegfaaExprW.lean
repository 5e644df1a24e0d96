/- A small number is its own wrap. -/
import Derived.Test.YtdfhbmallnegfaaPAx0
namespace Go.Proofs.Ytdfhbmallnegfaa.Expr
open Go.RowKit Go.Proofs.Ytdfhbmallnegfaa.PA Go.Proofs.YtdfhbmallnegfaaW.PrintWords Go.Proofs.YtdfhbmallnegfaaW.PrintLast Go.Proofs.YtdfhbmallnegfaaW.PrintMore
set_option linter.unusedVariables false
set_option linter.unusedSimpArgs false

theorem w64 {x : Int} (h : -9223372036854775808 ≤ x) (h' : x ≤ 9223372036854775807) : wrap64 x = x := by unfold wrap64; omega
end Go.Proofs.Ytdfhbmallnegfaa.Expr
