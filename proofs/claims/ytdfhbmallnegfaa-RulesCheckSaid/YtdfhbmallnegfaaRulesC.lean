/- Plain laws on tables: a rule, a table, and what Check comes to, in the program and in the reference, without rounds. -/
import Derived.Test.YtdfhbmallnegfaaRulesB
namespace Go.Proofs.Ytdfhbmallnegfaa.Rules
open Go.RowKit Go.Proofs.Ytdfhbmallnegfaa.PA Go.Proofs.YtdfhbmallnegfaaW.PrintWords Go.Proofs.YtdfhbmallnegfaaW.PrintLast Go.Proofs.YtdfhbmallnegfaaW.PrintMore Go.Proofs.Ytdfhbmallnegfaa.Expr
set_option linter.unusedVariables false
set_option linter.unusedSimpArgs false

/-! ### the first rule of a name -/
def findBad (ru : List S38) (s : ByteArray) (k : Nat) : Option Int := if (rd_T38 ru (k : Int)).f0.toList = s.toList then some (k : Int) else none
def findS (ru : List S38) (s : ByteArray) : Int := (scan (findBad ru s) ru.length 0).getD (-1)
theorem find_ev (st va : List ByteArray) (start : List Int) (ru : List S38) (s : ByteArray) (hl : (ru.length : Int) < 9223372036854775807) : Ev (fun k => rules_Find.f k st va start ru s) (findS ru s) := by
  simp only [rules_Find.f, findS]
  refine Loop.ev (F := fun k j => rules_Find.l0 k s ru (ru.length : Int) j) (Loop.of fun i hi k => ?_) (Ev.step (f := fun _ => some (-1)) (fun k => ?_) (Ev.now _))
  · simp only [rules_Find.l0, findBad]
    rw [if_pos (by omega), if_pos (by omega), if_pos (by omega), w1 hl hi]
    by_cases c : (rd_T38 ru (i : Int)).f0.toList = s.toList
    · simp only [if_pos c]
    · simp only [if_neg c]
  · simp only [rules_Find.l0]; rw [if_neg (by omega)]
def dupRule (ru : List S38) (n k : Nat) : Option (Int × Int × Int × Int) := if (rd_T38 ru (k : Int)).f0.toList = (rd_T38 ru (n : Int)).f0.toList then some (9, (n : Int), 5, 0) else none
theorem find_dup {ru : List S38} {n : Nat} (hn : n < ru.length) : (findS ru (rd_T38 ru (n : Int)).f0 < (n : Int) → scan (dupRule ru n) n 0 = some (9, (n : Int), 5, 0)) ∧ (¬ findS ru (rd_T38 ru (n : Int)).f0 < (n : Int) → scan (dupRule ru n) n 0 = none) := by
  unfold findS
  refine ⟨fun h => ?_, fun h => ?_⟩
  · cases hs : scan (dupRule ru n) n 0 with
    | some b =>
      obtain ⟨j, _, _, hj⟩ := scan_some hs
      rw [dupRule] at hj; split at hj
      · cases hj; rfl
      · cases hj
    | none =>
      exfalso
      cases hf : scan (findBad ru (rd_T38 ru (n : Int)).f0) ru.length 0 with
      | none =>
        have := scan_none.1 hf n (by omega) (by omega)
        rw [findBad, if_pos rfl] at this; cases this
      | some b =>
        rw [hf] at h
        obtain ⟨j, _, _, hj⟩ := scan_some hf
        rw [findBad] at hj; split at hj
        · rename_i c
          cases hj
          simp only [Option.getD_some] at h
          have := scan_none.1 hs j (by omega) (by omega)
          rw [dupRule, if_pos c] at this; cases this
        · cases hj
  · refine scan_none.2 fun j h1 h2 => ?_
    rw [dupRule]
    split
    · rename_i c
      exfalso
      apply h
      cases hf : scan (findBad ru (rd_T38 ru (n : Int)).f0) ru.length 0 with
      | none => simp only [Option.getD_none]; omega
      | some b =>
        simp only [Option.getD_some]
        -- the first one is no later than j
        have first : ∀ (m i : Nat) (b : Int), i ≤ j → j < i + m → scan (findBad ru (rd_T38 ru (n : Int)).f0) m i = some b → b ≤ (j : Int) := by
          intro m
          induction m with
          | zero => intro i b h1 h2 h; omega
          | succ m ih =>
            intro i b h1 h2 h
            unfold scan at h
            by_cases ci : (rd_T38 ru (i : Int)).f0.toList = (rd_T38 ru (n : Int)).f0.toList
            · rw [findBad, if_pos ci] at h; cases h; omega
            · rw [findBad, if_neg ci] at h
              have : i ≠ j := fun e => ci (e ▸ c)
              exact ih (i + 1) b (by omega) (by omega) h
        have := first _ _ _ (by omega) (by omega) hf
        omega
    · rfl

/-! ### a rule, in the program -/
def ruleS (ru : List S38) (st vars : Int) (n : Nat) : Int × Int × Int × Int :=
  if nameS (rd_T38 ru (n : Int)).f0 = true then
    if findS ru (rd_T38 ru (n : Int)).f0 < (n : Int) then (9, (n : Int), 5, 0)
    else if (rd_T38 ru (n : Int)).f1 < 0 ∨ (rd_T38 ru (n : Int)).f1 > 4 then (3, (n : Int), 6, 0)
    else listsS (rd_T38 ru (n : Int)) st vars (n : Int)
  else (6, (n : Int), 5, 0)
theorem rule_zero {ru : List S38} {st vars : Int} {n : Nat} (h : (ruleS ru st vars n).1 = 0) : ruleS ru st vars n = (0, 0, 0, 0) := by
  unfold ruleS at h ⊢
  split at h
  · rename_i c1; rw [if_pos c1]
    split at h
    · exact absurd h (by simp)
    · rename_i c2; rw [if_neg c2]
      split at h
      · exact absurd h (by simp)
      · rename_i c3; rw [if_neg c3]; exact lists_zero h
  · exact absurd h (by simp)
theorem rule_ev (st va : List ByteArray) (start : List Int) (ru : List S38) (hl : (ru.length : Int) < 9223372036854775807) (n : Nat) (hn : n < ru.length) (hf : fits (rd_T38 ru (n : Int))) :
    Ev (fun k => rules_rule.f k st va start ru (n : Int)) (ruleS ru (st.length : Int) (va.length : Int) n) := by
  refine Ev.congr (f := fun k => (infix_Name.f k (rd_T38 ru (n : Int)).f0).bind fun t => if t = true then (rules_Find.f k st va start ru (rd_T38 ru (n : Int)).f0).bind fun u => if u < (n : Int) then some (9, (n : Int), 5, 0) else rules_rule.j0 k (decide ((rd_T38 ru (n : Int)).f1 < 0 ∨ (rd_T38 ru (n : Int)).f1 > 4)) st va start ru (n : Int) (rd_T38 ru (n : Int)).f0 (rd_T38 ru (n : Int)).f1 (rd_T38 ru (n : Int)).f2 (rd_T38 ru (n : Int)).f3 (rd_T38 ru (n : Int)).f4 else some (6, (n : Int), 5, 0)) (fun k => ?_) (Ev.bind (name_ev _) ?_)
  · simp only [rules_rule.f, rules_rule_1.f, Option.bind_some]
    rw [if_pos (by omega), if_pos (by omega)]
    by_cases c : (rd_T38 ru (n : Int)).f1 < 0
    · simp only [if_pos c, or_pos c]
    · simp only [if_neg c, or_neg c]
  · unfold ruleS
    by_cases c1 : nameS (rd_T38 ru (n : Int)).f0 = true
    · simp only [if_pos c1]
      refine Ev.bind (find_ev st va start ru _ hl) ?_
      by_cases c2 : findS ru (rd_T38 ru (n : Int)).f0 < (n : Int)
      · simp only [if_pos c2]; exact Ev.now _
      · simp only [if_neg c2]
        by_cases c3 : (rd_T38 ru (n : Int)).f1 < 0 ∨ (rd_T38 ru (n : Int)).f1 > 4
        · simp only [if_pos c3, decide_eq_true c3]
          exact Ev.step (f := fun _ => some (3, (n : Int), 6, 0)) (fun k => by simp only [rules_rule.j0, rules_rule_1.f, Option.bind_some, if_true]) (Ev.now _)
        · simp only [if_neg c3, decide_eq_false c3]
          refine Ev.step (f := fun k => (rules_from.f k (rd_T38 ru (n : Int)).f2 (st.length : Int)).bind fun a => if a.2 = 0 then (rules_guards.f k (rd_T38 ru (n : Int)).f3 (va.length : Int) (rd_T38 ru (n : Int)).f1).bind fun b => if b.2 = 0 then (rules_steps.f k (rd_T38 ru (n : Int)).f4 st va start ru (rd_T38 ru (n : Int)).f1).bind fun c => if c.2 = 0 then some (0, 0, 0, 0) else some (c.2, (n : Int), 9, c.1) else some (b.2, (n : Int), 8, b.1) else some (a.2, (n : Int), 7, a.1)) (fun k => by simp only [rules_rule.j0, rules_rule_1.f, Option.bind_some, Bool.false_eq_true, if_false]) ?_
          refine Ev.bind (from_ev _ _ hf.1) ?_
          unfold listsS
          by_cases c4 : (fromS (rd_T38 ru (n : Int)).f2 (st.length : Int)).2 = 0
          · simp only [if_pos c4]
            refine Ev.bind (guards_ev _ _ _) ?_
            by_cases c5 : (guardsS (rd_T38 ru (n : Int)).f3 (va.length : Int) (rd_T38 ru (n : Int)).f1).2 = 0
            · simp only [if_pos c5]
              refine Ev.bind (steps_ev _ st va start ru _ hf.2) ?_
              by_cases c6 : (stepsS (rd_T38 ru (n : Int)).f4 (st.length : Int) (va.length : Int) (rd_T38 ru (n : Int)).f1).2 = 0
              · simp only [if_pos c6]; exact Ev.now _
              · simp only [if_neg c6]; exact Ev.now _
            · simp only [if_neg c5]; exact Ev.now _
          · simp only [if_neg c4]; exact Ev.now _
    · simp only [if_neg c1]; exact Ev.now _

/-! ### a rule's lists, in the reference -/
theorem code_ref (c : List S71) (vars args : Int) : Ev (fun k => surmiseref05_code.f k c vars args) (checkS c vars args).2 := by
  simp only [surmiseref05_code.f]
  exact Ev.bind (check_ref_ev _ _ _) (Ev.now _)
theorem step_ref_l1 (s : S60) (args : Int) (st va : List ByteArray) (start : List Int) (ru : List S38) (hl : (s.f0.length : Int) < 9223372036854775807) (i : Nat) (hi : i < s.f0.length) :
    Loop (fun k j => surmiseref05_step.l1 k args (i : Int) j s.f0 s.f1 st va start ru (rd_T68 s.f0 (i : Int)).f0 (rd_T68 s.f0 (i : Int)).f1) (dupSet s.f0 i) i := by
  refine Loop.of fun j hj k => ?_
  simp only [surmiseref05_step.l1, dupSet]
  rw [if_pos (by omega), if_pos (by omega), if_pos (by omega), w64 (by omega) (by omega)]
  by_cases c : (rd_T68 s.f0 (j : Int)).f0 = (rd_T68 s.f0 (i : Int)).f0
  · simp only [if_pos c]
  · simp only [if_neg c]
theorem step_ref_last (s : S60) (args : Int) (st va : List ByteArray) (start : List Int) (ru : List S38) (hl : (s.f0.length : Int) < 9223372036854775807) (i : Nat) (hi : i < s.f0.length) (r : Int)
    (h : Ev (fun k => if (checkS (rd_T68 s.f0 (i : Int)).f1 (va.length : Int) args).2 = 0 then surmiseref05_step.l0 k args ((i : Int) + 1) s.f0 s.f1 st va start ru else some (checkS (rd_T68 s.f0 (i : Int)).f1 (va.length : Int) args).2) r) :
    Ev (fun k => surmiseref05_step.l1 k args (i : Int) (i : Int) s.f0 s.f1 st va start ru (rd_T68 s.f0 (i : Int)).f0 (rd_T68 s.f0 (i : Int)).f1) r := by
  refine Ev.step (f := fun k => (surmiseref05_code.f k (rd_T68 s.f0 (i : Int)).f1 (va.length : Int) args).bind fun t => if t = 0 then surmiseref05_step.l0 k args (wrap64 ((i : Int) + 1)) s.f0 s.f1 st va start ru else some t) (fun k => ?_) (Ev.bind (code_ref _ _ _) ?_)
  · simp only [surmiseref05_step.l1]; rw [if_neg (by omega)]
  · rw [w1 hl hi]; exact h
theorem step_ref_ev (s : S60) (args : Int) (st va : List ByteArray) (start : List Int) (ru : List S38) (hl : (s.f0.length : Int) < 9223372036854775807) :
    Ev (fun k => surmiseref05_step.f k s.f0 s.f1 st va start ru args) (stepS s (st.length : Int) (va.length : Int) args) := by
  simp only [surmiseref05_step.f, stepS]
  by_cases c : s.f1 ≥ (st.length : Int)
  · simp only [if_pos c]; exact Ev.now _
  simp only [if_neg c, setsS]
  refine Loop.ev (F := fun k j => surmiseref05_step.l0 k args j s.f0 s.f1 st va start ru) (Loop.by_ (fun i k => surmiseref05_step.j1 k args (i : Int) (decide ((rd_T68 s.f0 (i : Int)).f0 < 0 ∨ (rd_T68 s.f0 (i : Int)).f0 ≥ (va.length : Int))) s.f0 s.f1 st va start ru (rd_T68 s.f0 (i : Int)).f0 (rd_T68 s.f0 (i : Int)).f1) (fun i hi k => ?_) (fun i hi r hr => ?_) (fun i hi hb r hr => ?_)) (Ev.step (f := fun _ => some 0) (fun k => ?_) (Ev.now _))
  · simp only [surmiseref05_step.l0]
    rw [if_pos (by omega), if_pos (by omega)]
    by_cases c : (rd_T68 s.f0 (i : Int)).f0 < 0
    · rw [if_pos c, or_pos c]
    · rw [if_neg c, or_neg c]
  · rw [setBad] at hr
    by_cases c : (rd_T68 s.f0 (i : Int)).f0 < 0 ∨ (rd_T68 s.f0 (i : Int)).f0 ≥ (va.length : Int)
    · rw [if_pos c] at hr; cases hr
      rw [decide_eq_true c]
      exact Ev.step (f := fun _ => some 3) (fun k => by simp only [surmiseref05_step.j1, if_true]) (Ev.now _)
    · rw [if_neg c] at hr
      rw [decide_eq_false c]
      refine Ev.step (f := fun k => surmiseref05_step.l1 k args (i : Int) 0 s.f0 s.f1 st va start ru (rd_T68 s.f0 (i : Int)).f0 (rd_T68 s.f0 (i : Int)).f1) (fun k => by simp only [surmiseref05_step.j1, Bool.false_eq_true, if_false]) ?_
      cases hs : scan (dupSet s.f0 i) i 0 with
      | some b => rw [hs] at hr; cases hr; exact (step_ref_l1 s args st va start ru hl i hi).found (m := i) (i := 0) (by omega) hs
      | none =>
        rw [hs] at hr
        refine (step_ref_l1 s args st va start ru hl i hi).past (m := i) (i := 0) (step_ref_last s args st va start ru hl i hi r ?_) (by omega) hs
        by_cases c2 : (checkS (rd_T68 s.f0 (i : Int)).f1 (va.length : Int) args).2 = 0
        · simp only [if_pos c2] at hr; cases hr
        · simp only [if_neg c2] at hr ⊢; cases hr; exact Ev.now _
  · rw [setBad] at hb
    by_cases c : (rd_T68 s.f0 (i : Int)).f0 < 0 ∨ (rd_T68 s.f0 (i : Int)).f0 ≥ (va.length : Int)
    · rw [if_pos c] at hb; cases hb
    · rw [if_neg c] at hb
      rw [decide_eq_false c]
      refine Ev.step (f := fun k => surmiseref05_step.l1 k args (i : Int) 0 s.f0 s.f1 st va start ru (rd_T68 s.f0 (i : Int)).f0 (rd_T68 s.f0 (i : Int)).f1) (fun k => by simp only [surmiseref05_step.j1, Bool.false_eq_true, if_false]) ?_
      cases hs : scan (dupSet s.f0 i) i 0 with
      | some b => rw [hs] at hb; cases hb
      | none =>
        rw [hs] at hb
        refine (step_ref_l1 s args st va start ru hl i hi).past (m := i) (i := 0) (step_ref_last s args st va start ru hl i hi r ?_) (by omega) hs
        by_cases c2 : (checkS (rd_T68 s.f0 (i : Int)).f1 (va.length : Int) args).2 = 0
        · simp only [if_pos c2]; exact hr
        · simp only [if_neg c2] at hb; cases hb
  · simp only [surmiseref05_step.l0]; rw [if_neg (by omega)]
theorem guard_ref (g : S66) (args : Int) (st va : List ByteArray) (start : List Int) (ru : List S38) :
    Ev (fun k => surmiseref05_guard.f k g.f0 g.f1 st va start ru args) (if g.f0 < 16 ∨ g.f0 > 63 then 3 else (checkS g.f1 (va.length : Int) args).2) := by
  simp only [surmiseref05_guard.f]
  by_cases c : g.f0 < 16
  · simp only [if_pos c, c, true_or, if_true]; exact Ev.now _
  · simp only [if_neg c]
    by_cases c2 : g.f0 > 63
    · simp only [if_pos c2, if_pos (show g.f0 < 16 ∨ g.f0 > 63 from .inr c2)]; exact Ev.now _
    · simp only [if_neg c2, if_neg (show ¬ (g.f0 < 16 ∨ g.f0 > 63) from fun h => h.elim c c2)]
      exact Ev.bind (code_ref _ _ _) (Ev.now _)
theorem lists_ref_steps (r : S38) (st va : List ByteArray) (start : List Int) (ru : List S38) (n : Int) (hf : fits r) (h3 : r.f4.length ≤ 3) :
    Loop (fun k j => surmiseref05_rule.l3 k n j st va start ru r.f0 r.f1 r.f2 r.f3 r.f4) (fun i => (stepBad r.f4 (st.length : Int) (va.length : Int) r.f1 i).map fun b => (b.2, n, 9, b.1)) r.f4.length := by
  refine Loop.by_ (fun i k => (surmiseref05_step.f k (rd_T60 r.f4 (i : Int)).f0 (rd_T60 r.f4 (i : Int)).f1 st va start ru r.f1).bind fun t => if t = 0 then surmiseref05_rule.l3 k n ((i : Int) + 1) st va start ru r.f0 r.f1 r.f2 r.f3 r.f4 else some (t, n, 9, (i : Int))) (fun i hi k => ?_) (fun i hi q hq => ?_) (fun i hi hb q hq => ?_)
  · simp only [surmiseref05_rule.l3]
    rw [if_pos (by omega), if_pos (by omega), w64 (by omega) (by omega)]
  · refine Ev.bind (step_ref_ev _ _ st va start ru (hf.2 i hi)) ?_
    rw [stepBad] at hq
    by_cases c : stepS (rd_T60 r.f4 (i : Int)) (st.length : Int) (va.length : Int) r.f1 = 0
    · rw [if_pos c] at hq; cases hq
    · rw [if_neg c] at hq; cases hq; simp only [if_neg c]; exact Ev.now _
  · refine Ev.bind (step_ref_ev _ _ st va start ru (hf.2 i hi)) ?_
    rw [stepBad] at hb
    by_cases c : stepS (rd_T60 r.f4 (i : Int)) (st.length : Int) (va.length : Int) r.f1 = 0
    · simp only [if_pos c]; exact hq
    · rw [if_neg c] at hb; cases hb
theorem lists_ref_guards (r : S38) (st va : List ByteArray) (start : List Int) (ru : List S38) (n : Int) (h4 : r.f3.length ≤ 4) :
    Loop (fun k j => surmiseref05_rule.l2 k n j st va start ru r.f0 r.f1 r.f2 r.f3 r.f4) (fun i => (guardBad r.f3 (va.length : Int) r.f1 i).map fun b => (b.2, n, 8, b.1)) r.f3.length := by
  refine Loop.by_ (fun i k => (surmiseref05_guard.f k (rd_T66 r.f3 (i : Int)).f0 (rd_T66 r.f3 (i : Int)).f1 st va start ru r.f1).bind fun t => if t = 0 then surmiseref05_rule.l2 k n ((i : Int) + 1) st va start ru r.f0 r.f1 r.f2 r.f3 r.f4 else some (t, n, 8, (i : Int))) (fun i hi k => ?_) (fun i hi q hq => ?_) (fun i hi hb q hq => ?_)
  · simp only [surmiseref05_rule.l2]
    rw [if_pos (by omega), if_pos (by omega), w64 (by omega) (by omega)]
  · refine Ev.bind (guard_ref _ _ st va start ru) ?_
    rw [guardBad] at hq
    by_cases c : (rd_T66 r.f3 (i : Int)).f0 < 16 ∨ (rd_T66 r.f3 (i : Int)).f0 > 63
    · rw [if_pos c] at hq; cases hq; simp only [if_pos c]; exact Ev.now _
    · rw [if_neg c] at hq; simp only [if_neg c]
      by_cases c2 : (checkS (rd_T66 r.f3 (i : Int)).f1 (va.length : Int) r.f1).2 = 0
      · rw [if_pos c2] at hq; cases hq
      · rw [if_neg c2] at hq; cases hq; simp only [if_neg c2]; exact Ev.now _
  · refine Ev.bind (guard_ref _ _ st va start ru) ?_
    rw [guardBad] at hb
    by_cases c : (rd_T66 r.f3 (i : Int)).f0 < 16 ∨ (rd_T66 r.f3 (i : Int)).f0 > 63
    · rw [if_pos c] at hb; cases hb
    · rw [if_neg c] at hb; simp only [if_neg c]
      by_cases c2 : (checkS (rd_T66 r.f3 (i : Int)).f1 (va.length : Int) r.f1).2 = 0
      · simp only [if_pos c2]; exact hq
      · rw [if_neg c2] at hb; cases hb
theorem lists_ref_from1 (r : S38) (st va : List ByteArray) (start : List Int) (ru : List S38) (n : Int) (hl : (r.f2.length : Int) < 9223372036854775807) (i : Nat) (hi : i < r.f2.length) :
    Loop (fun k j => surmiseref05_rule.l1 k n (i : Int) j st va start ru r.f0 r.f1 r.f2 r.f3 r.f4) (fun j => (dupI r.f2 i j).map fun b => (b.2, n, 7, b.1)) i := by
  refine Loop.of fun j hj k => ?_
  simp only [surmiseref05_rule.l1, dupI]
  rw [if_pos (by omega), if_pos (by omega), if_pos (by omega), if_pos (by omega), if_pos (by omega), w64 (by omega) (by omega)]
  by_cases c : rd r.f2 (j : Int) = rd r.f2 (i : Int)
  · simp only [if_pos c, Option.map_some]
  · simp only [if_neg c, Option.map_none]
theorem lists_ref_from (r : S38) (st va : List ByteArray) (start : List Int) (ru : List S38) (n : Int) (hl : (r.f2.length : Int) < 9223372036854775807) :
    Loop (fun k j => surmiseref05_rule.l0 k n j st va start ru r.f0 r.f1 r.f2 r.f3 r.f4) (fun i => (fromBad r.f2 (st.length : Int) i).map fun b => (b.2, n, 7, b.1)) r.f2.length := by
  refine Loop.by_ (fun i k => surmiseref05_rule.j1 k n (i : Int) (decide (rd r.f2 (i : Int) < 0 ∨ rd r.f2 (i : Int) ≥ (st.length : Int))) st va start ru r.f0 r.f1 r.f2 r.f3 r.f4) (fun i hi k => ?_) (fun i hi q hq => ?_) (fun i hi hb q hq => ?_)
  · simp only [surmiseref05_rule.l0]
    rw [if_pos (by omega), if_pos (by omega)]
    by_cases c : rd r.f2 (i : Int) < 0
    · rw [if_pos c, or_pos c]
    · rw [if_neg c, or_neg c]
  · rw [fromBad] at hq
    by_cases c : rd r.f2 (i : Int) < 0 ∨ rd r.f2 (i : Int) ≥ (st.length : Int)
    · rw [if_pos c] at hq; cases hq
      rw [decide_eq_true c]
      exact Ev.step (f := fun _ => some (3, n, 7, (i : Int))) (fun k => by simp only [surmiseref05_rule.j1, if_true]) (Ev.now _)
    · rw [if_neg c, ← scan_map] at hq
      rw [decide_eq_false c]
      exact Ev.step (f := fun k => surmiseref05_rule.l1 k n (i : Int) 0 st va start ru r.f0 r.f1 r.f2 r.f3 r.f4) (fun k => by simp only [surmiseref05_rule.j1, Bool.false_eq_true, if_false]) ((lists_ref_from1 r st va start ru n hl i hi).found (m := i) (i := 0) (by omega) hq)
  · rw [fromBad] at hb
    by_cases c : rd r.f2 (i : Int) < 0 ∨ rd r.f2 (i : Int) ≥ (st.length : Int)
    · rw [if_pos c] at hb; cases hb
    · rw [if_neg c, ← scan_map] at hb
      rw [decide_eq_false c]
      refine Ev.step (f := fun k => surmiseref05_rule.l1 k n (i : Int) 0 st va start ru r.f0 r.f1 r.f2 r.f3 r.f4) (fun k => by simp only [surmiseref05_rule.j1, Bool.false_eq_true, if_false]) ((lists_ref_from1 r st va start ru n hl i hi).past (m := i) (i := 0) (Ev.step (fun k => ?_) hq) (by omega) hb)
      simp only [surmiseref05_rule.l1]; rw [if_neg (by omega), w1 hl hi]
theorem rule_ref_ev (st va : List ByteArray) (start : List Int) (ru : List S38) (n : Nat) (hn : n < ru.length) (hf : fits (rd_T38 ru (n : Int))) :
    Ev (fun k => surmiseref05_rule.f k st va start ru (n : Int)) (listsS (rd_T38 ru (n : Int)) (st.length : Int) (va.length : Int) (n : Int)) := by
  refine Ev.congr (f := fun k => surmiseref05_rule.l0 k (n : Int) 0 st va start ru (rd_T38 ru (n : Int)).f0 (rd_T38 ru (n : Int)).f1 (rd_T38 ru (n : Int)).f2 (rd_T38 ru (n : Int)).f3 (rd_T38 ru (n : Int)).f4) (fun k => ?_) ?_
  · simp only [surmiseref05_rule.f]; rw [if_pos (by omega), if_pos (by omega)]
  generalize rd_T38 ru (n : Int) = r at hf ⊢
  unfold listsS fromS
  cases h1 : scan (fromBad r.f2 (st.length : Int)) r.f2.length 0 with
  | some b =>
    simp only [Option.getD_some, if_neg (from_ne h1)]
    exact (lists_ref_from r st va start ru n hf.1).found (m := r.f2.length) (i := 0) (by omega) (by rw [scan_map (fun b : Int × Int => (b.2, (n : Int), 7, b.1)), h1]; rfl)
  | none =>
    simp only [Option.getD_none, if_true]
    refine (lists_ref_from r st va start ru n hf.1).past (m := r.f2.length) (i := 0) ?_ (by omega) (by rw [scan_map (fun b : Int × Int => (b.2, (n : Int), 7, b.1)), h1]; rfl)
    unfold guardsS
    by_cases c1 : (r.f3.length : Int) > 4
    · simp only [if_pos c1]
      refine Ev.step (f := fun _ => some (4, (n : Int), 8, 0)) (fun k => ?_) (Ev.now _)
      simp only [surmiseref05_rule.l0]; rw [if_neg (by omega), if_pos c1]
    simp only [if_neg c1]
    refine Ev.step (f := fun k => surmiseref05_rule.l2 k n 0 st va start ru r.f0 r.f1 r.f2 r.f3 r.f4) (fun k => ?_) ?_
    · simp only [surmiseref05_rule.l0]; rw [if_neg (by omega), if_neg c1]
    cases h2 : scan (guardBad r.f3 (va.length : Int) r.f1) r.f3.length 0 with
    | some b =>
      simp only [Option.getD_some, if_neg (guard_ne h2)]
      exact (lists_ref_guards r st va start ru n (by omega)).found (m := r.f3.length) (i := 0) (by omega) (by rw [scan_map (fun b : Int × Int => (b.2, (n : Int), 8, b.1)), h2]; rfl)
    | none =>
      simp only [Option.getD_none, if_true]
      refine (lists_ref_guards r st va start ru n (by omega)).past (m := r.f3.length) (i := 0) ?_ (by omega) (by rw [scan_map (fun b : Int × Int => (b.2, (n : Int), 8, b.1)), h2]; rfl)
      unfold stepsS
      by_cases c2 : (r.f4.length : Int) = 0
      · simp only [if_pos c2]
        refine Ev.step (f := fun _ => some (2, (n : Int), 9, 0)) (fun k => ?_) (Ev.now _)
        simp only [surmiseref05_rule.l2]; rw [if_neg (by omega), if_pos c2]
      simp only [if_neg c2]
      by_cases c3 : (r.f4.length : Int) > 3
      · simp only [if_pos c3]
        refine Ev.step (f := fun _ => some (4, (n : Int), 9, 0)) (fun k => ?_) (Ev.now _)
        simp only [surmiseref05_rule.l2]; rw [if_neg (by omega), if_neg c2, if_pos c3]
      simp only [if_neg c3]
      refine Ev.step (f := fun k => surmiseref05_rule.l3 k n 0 st va start ru r.f0 r.f1 r.f2 r.f3 r.f4) (fun k => ?_) ?_
      · simp only [surmiseref05_rule.l2]; rw [if_neg (by omega), if_neg c2, if_neg c3]
      cases h3 : scan (stepBad r.f4 (st.length : Int) (va.length : Int) r.f1) r.f4.length 0 with
      | some b =>
        simp only [Option.getD_some, if_neg (step_ne h3)]
        exact (lists_ref_steps r st va start ru n hf (by omega)).found (m := r.f4.length) (i := 0) (by omega) (by rw [scan_map (fun b : Int × Int => (b.2, (n : Int), 9, b.1)), h3]; rfl)
      | none =>
        simp only [Option.getD_none, if_true]
        refine (lists_ref_steps r st va start ru n hf (by omega)).past (m := r.f4.length) (i := 0) (Ev.step (f := fun _ => some (0, 0, 0, 0)) (fun k => ?_) (Ev.now _)) (by omega) (by rw [scan_map (fun b : Int × Int => (b.2, (n : Int), 9, b.1)), h3]; rfl)
        simp only [surmiseref05_rule.l3]; rw [if_neg (by omega)]
end Go.Proofs.Ytdfhbmallnegfaa.Rules
