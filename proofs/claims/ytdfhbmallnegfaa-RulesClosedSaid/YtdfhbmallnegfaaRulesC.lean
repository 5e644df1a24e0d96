/- Plain laws on tables: a rule, a table, and what Check comes to, in the program and in the reference, without rounds. -/
import Derived.Test.YtdfhbmallnegfaaRulesB
namespace Go.Proofs.Ytdfhbmallnegfaa.Rules
open Go.RowKit Go.Proofs.Ytdfhbmallnegfaa.PA Go.Proofs.YtdfhbmallnegfaaW.PrintWords Go.Proofs.YtdfhbmallnegfaaW.PrintLast Go.Proofs.YtdfhbmallnegfaaW.PrintMore Go.Proofs.Ytdfhbmallnegfaa.Expr
set_option linter.unusedVariables false
set_option linter.unusedSimpArgs false
/-! ### a rule, in the program -/
def ruleS (ru : List S38) (st vars : Int) (n : Nat) : Int × Int × Int × Int :=
  if nameS (rd_T38 ru (n : Int)).f0 = true then
    if findS ru (rd_T38 ru (n : Int)).f0 < (n : Int) then (9, (n : Int), 5, 0)
    else if (rd_T38 ru (n : Int)).f1 < 0 ∨ (rd_T38 ru (n : Int)).f1 > 4 then (3, (n : Int), 6, 0)
    else listsS (rd_T38 ru (n : Int)) st vars (n : Int)
  else (6, (n : Int), 5, 0)
theorem rule_zero {ru : List S38} {st vars : Int} {n : Nat} (h : (ruleS ru st vars n).1 = 0) : ruleS ru st vars n = (0, 0, 0, 0) := by
  unfold ruleS at h ⊢
  split at h
  · rename_i c1; rw [if_pos c1]
    split at h
    · exact absurd h (by simp)
    · rename_i c2; rw [if_neg c2]
      split at h
      · exact absurd h (by simp)
      · rename_i c3; rw [if_neg c3]; exact lists_zero h
  · exact absurd h (by simp)
theorem rule_ev (st va : List ByteArray) (start : List Int) (ru : List S38) (hl : (ru.length : Int) < 9223372036854775807) (n : Nat) (hn : n < ru.length) (hf : fits (rd_T38 ru (n : Int))) :
    Ev (fun k => rules_rule.f k st va start ru (n : Int)) (ruleS ru (st.length : Int) (va.length : Int) n) := by
  refine Ev.congr (f := fun k => (infix_Name.f k (rd_T38 ru (n : Int)).f0).bind fun t => if t = true then (rules_Find.f k st va start ru (rd_T38 ru (n : Int)).f0).bind fun u => if u < (n : Int) then some (9, (n : Int), 5, 0) else rules_rule.j0 k (decide ((rd_T38 ru (n : Int)).f1 < 0 ∨ (rd_T38 ru (n : Int)).f1 > 4)) st va start ru (n : Int) (rd_T38 ru (n : Int)).f0 (rd_T38 ru (n : Int)).f1 (rd_T38 ru (n : Int)).f2 (rd_T38 ru (n : Int)).f3 (rd_T38 ru (n : Int)).f4 else some (6, (n : Int), 5, 0)) (fun k => ?_) (Ev.bind (name_ev _) ?_)
  · simp only [rules_rule.f, rules_rule_1.f, Option.bind_some]
    rw [if_pos (by omega), if_pos (by omega)]
    by_cases c : (rd_T38 ru (n : Int)).f1 < 0
    · simp only [if_pos c, or_pos c]
    · simp only [if_neg c, or_neg c]
  · unfold ruleS
    by_cases c1 : nameS (rd_T38 ru (n : Int)).f0 = true
    · simp only [if_pos c1]
      refine Ev.bind (find_ev st va start ru _ hl) ?_
      by_cases c2 : findS ru (rd_T38 ru (n : Int)).f0 < (n : Int)
      · simp only [if_pos c2]; exact Ev.now _
      · simp only [if_neg c2]
        by_cases c3 : (rd_T38 ru (n : Int)).f1 < 0 ∨ (rd_T38 ru (n : Int)).f1 > 4
        · simp only [if_pos c3, decide_eq_true c3]
          exact Ev.step (f := fun _ => some (3, (n : Int), 6, 0)) (fun k => by simp only [rules_rule.j0, rules_rule_1.f, Option.bind_some, if_true]) (Ev.now _)
        · simp only [if_neg c3, decide_eq_false c3]
          refine Ev.step (f := fun k => (rules_from.f k (rd_T38 ru (n : Int)).f2 (st.length : Int)).bind fun a => if a.2 = 0 then (rules_guards.f k (rd_T38 ru (n : Int)).f3 (va.length : Int) (rd_T38 ru (n : Int)).f1).bind fun b => if b.2 = 0 then (rules_steps.f k (rd_T38 ru (n : Int)).f4 st va start ru (rd_T38 ru (n : Int)).f1).bind fun c => if c.2 = 0 then some (0, 0, 0, 0) else some (c.2, (n : Int), 9, c.1) else some (b.2, (n : Int), 8, b.1) else some (a.2, (n : Int), 7, a.1)) (fun k => by simp only [rules_rule.j0, rules_rule_1.f, Option.bind_some, Bool.false_eq_true, if_false]) ?_
          refine Ev.bind (from_ev _ _ hf.1) ?_
          unfold listsS
          by_cases c4 : (fromS (rd_T38 ru (n : Int)).f2 (st.length : Int)).2 = 0
          · simp only [if_pos c4]
            refine Ev.bind (guards_ev _ _ _) ?_
            by_cases c5 : (guardsS (rd_T38 ru (n : Int)).f3 (va.length : Int) (rd_T38 ru (n : Int)).f1).2 = 0
            · simp only [if_pos c5]
              refine Ev.bind (steps_ev _ st va start ru _ hf.2) ?_
              by_cases c6 : (stepsS (rd_T38 ru (n : Int)).f4 (st.length : Int) (va.length : Int) (rd_T38 ru (n : Int)).f1).2 = 0
              · simp only [if_pos c6]; exact Ev.now _
              · simp only [if_neg c6]; exact Ev.now _
            · simp only [if_neg c5]; exact Ev.now _
          · simp only [if_neg c4]; exact Ev.now _
    · simp only [if_neg c1]; exact Ev.now _

end Go.Proofs.Ytdfhbmallnegfaa.Rules
