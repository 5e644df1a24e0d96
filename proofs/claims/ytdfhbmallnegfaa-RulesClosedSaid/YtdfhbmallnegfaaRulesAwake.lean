/- What must come at any rate, comes. -/
import Derived.Test.YtdfhbmallnegfaaPAx10
namespace Go.Proofs.Ytdfhbmallnegfaa.Rules
open Go.RowKit Go.Proofs.Ytdfhbmallnegfaa.PA Go.Proofs.YtdfhbmallnegfaaW.PrintWords Go.Proofs.YtdfhbmallnegfaaW.PrintLast Go.Proofs.YtdfhbmallnegfaaW.PrintMore
theorem awake_ev : Ev (fun k => surmiselaw05_awake.f k) true := Ev.of surmiselaw05_awake.mono (k := 80) (by kernel_rfl)
end Go.Proofs.Ytdfhbmallnegfaa.Rules
