/- Proved: for every table the program's Check answers as the reference's.
   Conditions: none beyond the row's own. -/
import Derived.Test.YtdfhbmallnegfaaRulesD
import Derived.Test.YtdfhbmallnegfaaRulesAwake
import Derived.Test.YtdfhbmallnegfaaSaidRulesCheck
namespace Go.Proofs.Ytdfhbmallnegfaa.Pure
open Go.RowKit Go.Proofs.Ytdfhbmallnegfaa.PA Go.Proofs.YtdfhbmallnegfaaW.PrintWords Go.Proofs.Ytdfhbmallnegfaa.Rules
theorem RulesCheck : Go.Proofs.Ytdfhbmallnegfaa.SaidRulesCheck.surmiselaw05_RulesCheck.Pure := by
  rintro ⟨st, va, start, ru⟩ ⟨h0, h1, h2, h3⟩
  have l0 : (st.length : Int) < 9223372036854775807 := by have := h0.2.1; simp only at this; omega
  have l1 : (va.length : Int) < 9223372036854775807 := by have := h1.2.1; simp only at this; omega
  have l2 : (start.length : Int) < 9223372036854775807 := by have := h2.2.1; simp only at this; omega
  have l3 : (ru.length : Int) < 9223372036854775807 := by have := h3.2.1; simp only at this; omega
  have hf : fitsAll ru := fitsAll_of fun y hy => by
    have g := h3.2.2 y hy
    refine ⟨by have := g.2.2.1.2.1; omega, fun s hs => ?_⟩
    have := (g.2.2.2.2.2.2 s hs).1.2.1
    omega
  refine Ev.rounds (g := fun k => surmiselaw05_RulesCheck.f k st va start ru) ?_
  simp only [surmiselaw05_RulesCheck.f]
  refine Ev.bind awake_ev ?_
  simp only [if_true]
  refine Ev.bind (tcheck_ev st va start ru l0 l1 l2 l3 hf) (Ev.bind (tcheck_ref_ev st va start ru l0 l1 l2 l3 hf) ?_)
  simp only [beq_self_eq_true, Bool.and_self]
  exact Ev.now _
end Go.Proofs.Ytdfhbmallnegfaa.Pure
