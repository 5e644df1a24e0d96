/- Plain laws on tables: what the program's Check comes to, without rounds. -/
import Derived.Test.YtdfhbmallnegfaaRulesC
namespace Go.Proofs.Ytdfhbmallnegfaa.Rules
open Go.RowKit Go.Proofs.Ytdfhbmallnegfaa.PA Go.Proofs.YtdfhbmallnegfaaW.PrintWords Go.Proofs.YtdfhbmallnegfaaW.PrintLast Go.Proofs.YtdfhbmallnegfaaW.PrintMore Go.Proofs.Ytdfhbmallnegfaa.Expr
set_option linter.unusedVariables false
set_option linter.unusedSimpArgs false


theorem rvalue_f (n : Int) : rules_value.f n = some (valueS n) := by
  simp only [rules_value.f, valueS]
  by_cases h : n ≥ -1099511627776
  · rw [if_pos h]; simp [h]
  · rw [if_neg h]; simp [h]
def startBad (start : List Int) (i : Nat) : Option (Int × Int × Int × Int) := if valueS (rd start (i : Int)) = true then none else some (3, -1, 3, (i : Int))
/-- What is wrong with a table but for its rules. -/
def tableS (st va : List ByteArray) (start : List Int) (ru : List S38) : Int × Int × Int × Int :=
  if (namesS st 8).2 = 0 then
    if (st.length : Int) = 0 then (2, -1, 1, 0)
    else if (namesS va 6).2 = 0 then
      if (start.length : Int) = (va.length : Int) then (scan (startBad start) start.length 0).getD (if (ru.length : Int) > 12 then (4, -1, 4, 0) else (0, 0, 0, 0))
      else (2, -1, 3, 0)
    else ((namesS va 6).2, -1, 2, (namesS va 6).1)
  else ((namesS st 8).2, -1, 1, (namesS st 8).1)
theorem table_zero {st va : List ByteArray} {start : List Int} {ru : List S38} (h : (tableS st va start ru).1 = 0) : tableS st va start ru = (0, 0, 0, 0) ∧ (ru.length : Int) ≤ 12 ∧ (st.length : Int) ≠ 0 ∧ (st.length : Int) ≤ 8 ∧ (va.length : Int) ≤ 6 := by
  unfold tableS at h ⊢
  by_cases c1 : (namesS st 8).2 = 0
  · rw [if_pos c1] at h ⊢
    by_cases c2 : (st.length : Int) = 0
    · rw [if_pos c2] at h; exact absurd h (by simp)
    · rw [if_neg c2] at h ⊢
      by_cases c3 : (namesS va 6).2 = 0
      · rw [if_pos c3] at h ⊢
        by_cases c4 : (start.length : Int) = (va.length : Int)
        · rw [if_pos c4] at h ⊢
          have n8 : (st.length : Int) ≤ 8 := by
            unfold namesS at c1
            by_cases c : (st.length : Int) > 8
            · rw [if_pos c] at c1; exact absurd c1 (by simp)
            · omega
          have n6 : (va.length : Int) ≤ 6 := by
            unfold namesS at c3
            by_cases c : (va.length : Int) > 6
            · rw [if_pos c] at c3; exact absurd c3 (by simp)
            · omega
          cases hs : scan (startBad start) start.length 0 with
          | some b =>
            rw [hs] at h
            obtain ⟨j, _, _, hj⟩ := scan_some hs
            rw [startBad] at hj
            split at hj
            · cases hj
            · cases hj; exact absurd h (by simp)
          | none =>
            rw [hs] at h
            simp only [Option.getD_none] at h ⊢
            by_cases c5 : (ru.length : Int) > 12
            · rw [if_pos c5] at h; exact absurd h (by simp)
            · rw [if_neg c5]; exact ⟨rfl, by omega, c2, n8, n6⟩
        · rw [if_neg c4] at h; exact absurd h (by simp)
      · rw [if_neg c3] at h; exact absurd h c3
  · rw [if_neg c1] at h; exact absurd h c1
theorem table_ev (st va : List ByteArray) (start : List Int) (ru : List S38) (h0 : (st.length : Int) < 9223372036854775807) (h1 : (va.length : Int) < 9223372036854775807) (h2 : (start.length : Int) < 9223372036854775807) :
    Ev (fun k => rules_table.f k st va start ru) (tableS st va start ru) := by
  simp only [rules_table.f]
  refine Ev.bind (names_ev st 8 h0) ?_
  unfold tableS
  by_cases c1 : (namesS st 8).2 = 0
  · simp only [if_pos c1]
    by_cases c2 : (st.length : Int) = 0
    · simp only [if_pos c2, c2, beq_self_eq_true]
      exact Ev.step (f := fun _ => some (2, -1, 1, 0)) (fun k => by simp only [rules_table.j0, rules_table_1.f, Option.bind_some, if_true]) (Ev.now _)
    · simp only [if_neg c2, beq_eq_false_iff_ne.2 c2]
      refine Ev.step (f := fun k => (rules_names.f k va 6).bind fun b => if b.2 = 0 then (if (start.length : Int) = (va.length : Int) then rules_table.l0 k start (start.length : Int) 0 st va start ru else some (2, -1, 3, 0)) else some (b.2, -1, 2, b.1)) (fun k => by simp only [rules_table.j0, rules_table_1.f, Option.bind_some, Bool.false_eq_true, if_false, if_pos c1]) ?_
      refine Ev.bind (names_ev va 6 h1) ?_
      by_cases c3 : (namesS va 6).2 = 0
      · simp only [if_pos c3]
        by_cases c4 : (start.length : Int) = (va.length : Int)
        · simp only [if_pos c4]
          refine Loop.ev (F := fun k j => rules_table.l0 k start (start.length : Int) j st va start ru) (Loop.of fun i hi k => ?_) (Ev.step (f := fun _ => some (if (ru.length : Int) > 12 then (4, -1, 4, 0) else (0, 0, 0, 0))) (fun k => ?_) (Ev.now _))
          · simp only [rules_table.l0, rules_table_1.f, rvalue_f, Option.bind_some, startBad]
            rw [if_pos (by omega), if_pos (by omega), if_pos (by omega), w1 h2 hi]
            by_cases c5 : valueS (rd start (i : Int)) = true
            · simp only [if_pos c5]
            · simp only [if_neg c5]
          · simp only [rules_table.l0, rules_table_1.f, Option.bind_some]
            rw [if_neg (by omega)]
            by_cases c5 : (ru.length : Int) > 12
            · rw [if_pos c5, if_pos c5]
            · rw [if_neg c5, if_neg c5]
        · simp only [if_neg c4]; exact Ev.now _
      · simp only [if_neg c3]; exact Ev.now _
  · simp only [if_neg c1]
    exact Ev.step (f := fun _ => some ((namesS st 8).2, -1, 1, (namesS st 8).1)) (fun k => by simp only [rules_table.j0, rules_table_1.f, Option.bind_some, Bool.false_eq_true, if_false, if_neg c1]) (Ev.now _)

/-! ### Check -/
def ruleBad (ru : List S38) (st vars : Int) (n : Nat) : Option (Int × Int × Int × Int) := if (ruleS ru st vars n).1 = 0 then none else some (ruleS ru st vars n)
def checkT (st va : List ByteArray) (start : List Int) (ru : List S38) : Int × Int × Int × Int :=
  if (tableS st va start ru).1 = 0 then (scan (ruleBad ru (st.length : Int) (va.length : Int)) ru.length 0).getD (0, 0, 0, 0) else tableS st va start ru
theorem check_stop (q : Int × Int × Int × Int) (h : q.1 ≠ 0) (n : Int) (st va : List ByteArray) (start : List Int) (ru : List S38) (k : Nat) : rules_Check.l0 (k + 1) n st va start ru q.1 q.2.1 q.2.2.1 q.2.2.2 = some q := by
  simp only [rules_Check.l0]
  rw [if_neg (by simp [h])]
theorem tcheck_ev (st va : List ByteArray) (start : List Int) (ru : List S38) (h0 : (st.length : Int) < 9223372036854775807) (h1 : (va.length : Int) < 9223372036854775807) (h2 : (start.length : Int) < 9223372036854775807) (h3 : (ru.length : Int) < 9223372036854775807) (hf : fitsAll ru) :
    Ev (fun k => rules_Check.f k st va start ru) (checkT st va start ru) := by
  simp only [rules_Check.f]
  refine Ev.bind (table_ev st va start ru h0 h1 h2) ?_
  unfold checkT
  by_cases c : (tableS st va start ru).1 = 0
  · rw [if_pos c, (table_zero c).1]
    refine Loop.ev (F := fun k j => rules_Check.l0 k j st va start ru 0 0 0 0) (Loop.by_ (fun i k => (rules_rule.f k st va start ru (i : Int)).bind fun b => rules_Check.l0 k ((i : Int) + 1) st va start ru b.1 b.2.1 b.2.2.1 b.2.2.2) (fun i hi k => ?_) (fun i hi r hr => ?_) (fun i hi hb r hr => ?_)) (Ev.step (f := fun _ => some (0, 0, 0, 0)) (fun k => ?_) (Ev.now _))
    · simp only [rules_Check.l0]
      rw [if_pos (by simp), if_pos (by omega), w1 h3 hi]
    · refine Ev.bind (rule_ev st va start ru h3 i hi (hf i hi)) ?_
      rw [ruleBad] at hr
      split at hr
      · cases hr
      · rename_i c2; cases hr
        exact Ev.step (f := fun _ => some (ruleS ru (st.length : Int) (va.length : Int) i)) (check_stop _ c2 _ st va start ru) (Ev.now _)
    · refine Ev.bind (rule_ev st va start ru h3 i hi (hf i hi)) ?_
      rw [ruleBad] at hb
      split at hb
      · rename_i c2; rw [rule_zero c2]; exact hr
      · cases hb
    · simp only [rules_Check.l0]
      rw [if_pos (by simp), if_neg (by omega)]
  · rw [if_neg c]
    exact Ev.step (f := fun _ => some (tableS st va start ru)) (check_stop _ c _ st va start ru) (Ev.now _)
end Go.Proofs.Ytdfhbmallnegfaa.Rules
