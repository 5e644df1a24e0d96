/- Plain laws on tables: what is wrong with a rule, in the program and in the reference, without rounds. -/
import Derived.Test.YtdfhbmallnegfaaRulesA
namespace Go.Proofs.Ytdfhbmallnegfaa.Rules
open Go.RowKit Go.Proofs.Ytdfhbmallnegfaa.PA Go.Proofs.YtdfhbmallnegfaaW.PrintWords Go.Proofs.YtdfhbmallnegfaaW.PrintLast Go.Proofs.YtdfhbmallnegfaaW.PrintMore Go.Proofs.Ytdfhbmallnegfaa.Expr
set_option linter.unusedVariables false
set_option linter.unusedSimpArgs false

theorem or_pos {p q : Prop} [Decidable p] [Decidable q] (h : p) : decide (p ∨ q) = true := by simp [h]
theorem or_neg {p q : Prop} [Decidable p] [Decidable q] (h : ¬ p) : decide (p ∨ q) = decide q := by simp [h]
theorem len_take {α : Type} {l : List α} {i : Nat} (h : i < l.length) : (l.take i).length = i := by rw [List.length_take]; omega

/-! ### the states that a rule is for -/
theorem rd_take (l : List Int) {n k : Nat} (h : k < n) : rd (l.take n) (k : Int) = rd l (k : Int) := by simp only [rd, Int.toNat_natCast]; exact take_getD l _ h
def dupI (l : List Int) (i k : Nat) : Option (Int × Int) := if rd l (k : Int) = rd l (i : Int) then some ((i : Int), 9) else none
def fromBad (l : List Int) (st : Int) (i : Nat) : Option (Int × Int) := if rd l (i : Int) < 0 ∨ rd l (i : Int) ≥ st then some ((i : Int), 3) else scan (dupI l i) i 0
def fromS (l : List Int) (st : Int) : Int × Int := (scan (fromBad l st) l.length 0).getD (0, 0)
theorem from_ne {l : List Int} {st : Int} {m i : Nat} {b : Int × Int} (h : scan (fromBad l st) m i = some b) : b.2 ≠ 0 := by
  obtain ⟨j, _, _, hj⟩ := scan_some h
  rw [fromBad] at hj
  split at hj
  · cases hj; simp
  · obtain ⟨k, _, _, hk⟩ := scan_some hj
    rw [dupI] at hk
    split at hk
    · cases hk; simp
    · cases hk
theorem from_l1 (l : List Int) (st : Int) (hl : (l.length : Int) < 9223372036854775807) (i : Nat) (hi : i < l.length) :
    Loop (fun k j => rules_from.l1 k l st (i : Int) (rd l (i : Int)) l (l.length : Int) (i : Int) (l.take i) ((l.take i).length : Int) j) (dupI l i) i := by
  have hlen := len_take hi
  refine Loop.of fun j hj k => ?_
  simp only [rules_from.l1, dupI]
  rw [if_pos (by omega), if_pos (by omega), if_pos (by omega), rd_take l hj, w64 (by omega) (by omega)]
  by_cases c : rd l (j : Int) = rd l (i : Int)
  · simp only [if_pos c]
  · simp only [if_neg c]
theorem from_j1 (l : List Int) (st : Int) (i : Nat) (hi : i < l.length) (k : Nat) : rules_from.j1 (k + 1) l st (i : Int) (rd l (i : Int)) l (l.length : Int) (i : Int) false =
    rules_from.l1 k l st (i : Int) (rd l (i : Int)) l (l.length : Int) (i : Int) (l.take i) ((l.take i).length : Int) 0 := by
  simp only [rules_from.j1, Bool.false_eq_true, if_false]
  rw [if_pos (by omega), if_pos (show (i : Int) ≤ (l.length : Int) by omega)]
  simp only [Option.bind_some, Int.toNat_natCast]
theorem from_ev (l : List Int) (st : Int) (hl : (l.length : Int) < 9223372036854775807) : Ev (fun k => rules_from.f k l st) (fromS l st) := by
  simp only [rules_from.f, fromS]
  refine Loop.ev (F := fun k j => rules_from.l0 k l st l (l.length : Int) j) (Loop.by_ (fun i k => rules_from.j1 k l st (i : Int) (rd l (i : Int)) l (l.length : Int) (i : Int) (decide (rd l (i : Int) < 0 ∨ rd l (i : Int) ≥ st))) (fun i hi k => ?_) (fun i hi r hr => ?_) (fun i hi hb r hr => ?_)) (Ev.step (f := fun _ => some (0, 0)) (fun k => ?_) (Ev.now _))
  · simp only [rules_from.l0]
    rw [if_pos (by omega), if_pos (by omega), if_pos (by omega)]
    by_cases c : rd l (i : Int) < 0
    · rw [if_pos c, or_pos c]
    · rw [if_neg c, or_neg c]
  · rw [fromBad] at hr
    by_cases c : rd l (i : Int) < 0 ∨ rd l (i : Int) ≥ st
    · rw [if_pos c] at hr; cases hr
      rw [decide_eq_true c]
      exact Ev.step (f := fun _ => some ((i : Int), 3)) (fun k => by simp only [rules_from.j1, if_true]) (Ev.now _)
    · rw [if_neg c] at hr
      rw [decide_eq_false c]
      exact Ev.step (from_j1 l st i hi) ((from_l1 l st hl i hi).found (m := i) (i := 0) (by omega) hr)
  · rw [fromBad] at hb
    by_cases c : rd l (i : Int) < 0 ∨ rd l (i : Int) ≥ st
    · rw [if_pos c] at hb; cases hb
    · rw [if_neg c] at hb
      rw [decide_eq_false c]
      refine Ev.step (from_j1 l st i hi) ((from_l1 l st hl i hi).past (m := i) (i := 0) (Ev.step (fun k => ?_) hr) (by omega) hb)
      simp only [rules_from.l1]; rw [if_neg (by rw [len_take hi]; omega), w1 hl hi]
  · simp only [rules_from.l0]; rw [if_neg (by omega)]

/-! ### guards -/
def guardBad (l : List S66) (vars args : Int) (i : Nat) : Option (Int × Int) :=
  if (rd_T66 l (i : Int)).f0 < 16 ∨ (rd_T66 l (i : Int)).f0 > 63 then some ((i : Int), 3)
  else if (checkS (rd_T66 l (i : Int)).f1 vars args).2 = 0 then none else some ((i : Int), (checkS (rd_T66 l (i : Int)).f1 vars args).2)
def guardsS (l : List S66) (vars args : Int) : Int × Int := if (l.length : Int) > 4 then (0, 4) else (scan (guardBad l vars args) l.length 0).getD (0, 0)
theorem guard_ne {l : List S66} {vars args : Int} {m i : Nat} {b : Int × Int} (h : scan (guardBad l vars args) m i = some b) : b.2 ≠ 0 := by
  obtain ⟨j, _, _, hj⟩ := scan_some h
  rw [guardBad] at hj
  split at hj
  · cases hj; simp
  · split at hj
    · cases hj
    · rename_i c; cases hj; exact c
theorem guards_ev (l : List S66) (vars args : Int) : Ev (fun k => rules_guards.f k l vars args) (guardsS l vars args) := by
  simp only [rules_guards.f, guardsS]
  by_cases c : (l.length : Int) > 4
  · simp only [if_pos c]; exact Ev.now _
  simp only [if_neg c]
  refine Loop.ev (F := fun k j => rules_guards.l0 k vars args l (l.length : Int) j) (Loop.by_ (fun i k => rules_guards.j1 k vars args (i : Int) l (l.length : Int) (i : Int) (decide ((rd_T66 l (i : Int)).f0 < 16 ∨ (rd_T66 l (i : Int)).f0 > 63)) (rd_T66 l (i : Int)).f0 (rd_T66 l (i : Int)).f1) (fun i hi k => ?_) (fun i hi r hr => ?_) (fun i hi hb r hr => ?_)) (Ev.step (f := fun _ => some (0, 0)) (fun k => ?_) (Ev.now _))
  · simp only [rules_guards.l0]
    rw [if_pos (by omega), if_pos (by omega), if_pos (by omega)]
    by_cases c : (rd_T66 l (i : Int)).f0 < 16
    · rw [if_pos c, or_pos c]
    · rw [if_neg c, or_neg c]
  · rw [guardBad] at hr
    by_cases c : (rd_T66 l (i : Int)).f0 < 16 ∨ (rd_T66 l (i : Int)).f0 > 63
    · rw [if_pos c] at hr; cases hr
      rw [decide_eq_true c]
      exact Ev.step (f := fun _ => some ((i : Int), 3)) (fun k => by simp only [rules_guards.j1, if_true]) (Ev.now _)
    · rw [if_neg c] at hr
      rw [decide_eq_false c]
      by_cases c2 : (checkS (rd_T66 l (i : Int)).f1 vars args).2 = 0
      · rw [if_pos c2] at hr; cases hr
      · rw [if_neg c2] at hr; cases hr
        refine Ev.step (f := fun k => (expr_Check.f k (rd_T66 l (i : Int)).f1 vars args).bind fun b => if b.2 = 0 then rules_guards.l0 k vars args l (l.length : Int) (wrap64 ((i : Int) + 1)) else some ((i : Int), b.2)) (fun k => by simp only [rules_guards.j1, Bool.false_eq_true, if_false]) (Ev.bind (check_ev _ _ _) ?_)
        simp only [if_neg c2]; exact Ev.now _
  · rw [guardBad] at hb
    by_cases c : (rd_T66 l (i : Int)).f0 < 16 ∨ (rd_T66 l (i : Int)).f0 > 63
    · rw [if_pos c] at hb; cases hb
    · rw [if_neg c] at hb
      rw [decide_eq_false c]
      by_cases c2 : (checkS (rd_T66 l (i : Int)).f1 vars args).2 = 0
      · refine Ev.step (f := fun k => (expr_Check.f k (rd_T66 l (i : Int)).f1 vars args).bind fun b => if b.2 = 0 then rules_guards.l0 k vars args l (l.length : Int) (wrap64 ((i : Int) + 1)) else some ((i : Int), b.2)) (fun k => by simp only [rules_guards.j1, Bool.false_eq_true, if_false]) (Ev.bind (check_ev _ _ _) ?_)
        simp only [if_pos c2, w64 (x := (i : Int) + 1) (by omega) (by omega)]; exact hr
      · rw [if_neg c2] at hb; cases hb
  · simp only [rules_guards.l0]; rw [if_neg (by omega)]

/-! ### what a step sets -/
theorem rdSet_take (l : List S68) {n k : Nat} (h : k < n) : rd_T68 (l.take n) (k : Int) = rd_T68 l (k : Int) := by simp only [rd_T68, Int.toNat_natCast]; exact take_getD l _ h
def dupSet (l : List S68) (i k : Nat) : Option Int := if (rd_T68 l (k : Int)).f0 = (rd_T68 l (i : Int)).f0 then some 9 else none
def setBad (l : List S68) (vars args : Int) (i : Nat) : Option Int :=
  if (rd_T68 l (i : Int)).f0 < 0 ∨ (rd_T68 l (i : Int)).f0 ≥ vars then some 3
  else match scan (dupSet l i) i 0 with
    | some b => some b
    | none => if (checkS (rd_T68 l (i : Int)).f1 vars args).2 = 0 then none else some (checkS (rd_T68 l (i : Int)).f1 vars args).2
def setsS (l : List S68) (vars args : Int) : Int := (scan (setBad l vars args) l.length 0).getD 0
theorem sets_l1 (l : List S68) (vars args : Int) (hl : (l.length : Int) < 9223372036854775807) (i : Nat) (hi : i < l.length) :
    Loop (fun k j => rules_sets.l1 k l vars args l (l.length : Int) (i : Int) (l.take i) ((l.take i).length : Int) j (rd_T68 l (i : Int)).f0 (rd_T68 l (i : Int)).f1) (dupSet l i) i := by
  have hlen := len_take hi
  refine Loop.of fun j hj k => ?_
  simp only [rules_sets.l1, dupSet]
  rw [if_pos (by omega), if_pos (by omega), if_pos (by omega), rdSet_take l hj, w64 (by omega) (by omega)]
  by_cases c : (rd_T68 l (j : Int)).f0 = (rd_T68 l (i : Int)).f0
  · simp only [if_pos c]
  · simp only [if_neg c]
theorem sets_j1 (l : List S68) (vars args : Int) (i : Nat) (hi : i < l.length) (k : Nat) : rules_sets.j1 (k + 1) l vars args (i : Int) l (l.length : Int) (i : Int) false (rd_T68 l (i : Int)).f0 (rd_T68 l (i : Int)).f1 =
    rules_sets.l1 k l vars args l (l.length : Int) (i : Int) (l.take i) ((l.take i).length : Int) 0 (rd_T68 l (i : Int)).f0 (rd_T68 l (i : Int)).f1 := by
  simp only [rules_sets.j1, Bool.false_eq_true, if_false]
  rw [if_pos (by omega), if_pos (show (i : Int) ≤ (l.length : Int) by omega)]
  simp only [Option.bind_some, Int.toNat_natCast]
theorem sets_last (l : List S68) (vars args : Int) (hl : (l.length : Int) < 9223372036854775807) (i : Nat) (hi : i < l.length) (r : Int)
    (h : Ev (fun k => if (checkS (rd_T68 l (i : Int)).f1 vars args).2 = 0 then rules_sets.l0 k l vars args l (l.length : Int) ((i : Int) + 1) else some (checkS (rd_T68 l (i : Int)).f1 vars args).2) r) :
    Ev (fun k => rules_sets.l1 k l vars args l (l.length : Int) (i : Int) (l.take i) ((l.take i).length : Int) (i : Int) (rd_T68 l (i : Int)).f0 (rd_T68 l (i : Int)).f1) r := by
  refine Ev.step (f := fun k => (expr_Check.f k (rd_T68 l (i : Int)).f1 vars args).bind fun b => if b.2 = 0 then rules_sets.l0 k l vars args l (l.length : Int) (wrap64 ((i : Int) + 1)) else some b.2) (fun k => ?_) (Ev.bind (check_ev _ _ _) ?_)
  · simp only [rules_sets.l1]; rw [if_neg (by rw [len_take hi]; omega)]
  · rw [w1 hl hi]; exact h
theorem sets_ev (l : List S68) (vars args : Int) (hl : (l.length : Int) < 9223372036854775807) : Ev (fun k => rules_sets.f k l vars args) (setsS l vars args) := by
  simp only [rules_sets.f, setsS]
  refine Loop.ev (F := fun k j => rules_sets.l0 k l vars args l (l.length : Int) j) (Loop.by_ (fun i k => rules_sets.j1 k l vars args (i : Int) l (l.length : Int) (i : Int) (decide ((rd_T68 l (i : Int)).f0 < 0 ∨ (rd_T68 l (i : Int)).f0 ≥ vars)) (rd_T68 l (i : Int)).f0 (rd_T68 l (i : Int)).f1) (fun i hi k => ?_) (fun i hi r hr => ?_) (fun i hi hb r hr => ?_)) (Ev.step (f := fun _ => some 0) (fun k => ?_) (Ev.now _))
  · simp only [rules_sets.l0]
    rw [if_pos (by omega), if_pos (by omega), if_pos (by omega)]
    by_cases c : (rd_T68 l (i : Int)).f0 < 0
    · rw [if_pos c, or_pos c]
    · rw [if_neg c, or_neg c]
  · rw [setBad] at hr
    by_cases c : (rd_T68 l (i : Int)).f0 < 0 ∨ (rd_T68 l (i : Int)).f0 ≥ vars
    · rw [if_pos c] at hr; cases hr
      rw [decide_eq_true c]
      exact Ev.step (f := fun _ => some 3) (fun k => by simp only [rules_sets.j1, if_true]) (Ev.now _)
    · rw [if_neg c] at hr
      rw [decide_eq_false c]
      refine Ev.step (sets_j1 l vars args i hi) ?_
      cases hs : scan (dupSet l i) i 0 with
      | some b => rw [hs] at hr; cases hr; exact (sets_l1 l vars args hl i hi).found (m := i) (i := 0) (by omega) hs
      | none =>
        rw [hs] at hr
        refine (sets_l1 l vars args hl i hi).past (m := i) (i := 0) (sets_last l vars args hl i hi r ?_) (by omega) hs
        by_cases c2 : (checkS (rd_T68 l (i : Int)).f1 vars args).2 = 0
        · simp only [if_pos c2] at hr; cases hr
        · simp only [if_neg c2] at hr ⊢; cases hr; exact Ev.now _
  · rw [setBad] at hb
    by_cases c : (rd_T68 l (i : Int)).f0 < 0 ∨ (rd_T68 l (i : Int)).f0 ≥ vars
    · rw [if_pos c] at hb; cases hb
    · rw [if_neg c] at hb
      rw [decide_eq_false c]
      refine Ev.step (sets_j1 l vars args i hi) ?_
      cases hs : scan (dupSet l i) i 0 with
      | some b => rw [hs] at hb; cases hb
      | none =>
        rw [hs] at hb
        refine (sets_l1 l vars args hl i hi).past (m := i) (i := 0) (sets_last l vars args hl i hi r ?_) (by omega) hs
        by_cases c2 : (checkS (rd_T68 l (i : Int)).f1 vars args).2 = 0
        · simp only [if_pos c2]; exact hr
        · simp only [if_neg c2] at hb; cases hb
  · simp only [rules_sets.l0]; rw [if_neg (by omega)]

/-! ### steps -/
def stepS (s : S60) (st vars args : Int) : Int := if s.f1 ≥ st then 3 else setsS s.f0 vars args
def stepBad (l : List S60) (st vars args : Int) (i : Nat) : Option (Int × Int) := if stepS (rd_T60 l (i : Int)) st vars args = 0 then none else some ((i : Int), stepS (rd_T60 l (i : Int)) st vars args)
def stepsS (l : List S60) (st vars args : Int) : Int × Int := if (l.length : Int) = 0 then (0, 2) else if (l.length : Int) > 3 then (0, 4) else (scan (stepBad l st vars args) l.length 0).getD (0, 0)
theorem step_ne {l : List S60} {st vars args : Int} {m i : Nat} {b : Int × Int} (h : scan (stepBad l st vars args) m i = some b) : b.2 ≠ 0 := by
  obtain ⟨j, _, _, hj⟩ := scan_some h
  rw [stepBad] at hj
  split at hj
  · cases hj
  · rename_i c; cases hj; exact c
theorem steps_ev (l : List S60) (st va : List ByteArray) (start : List Int) (ru : List S38) (args : Int) (hl : ∀ j : Nat, j < l.length → ((rd_T60 l (j : Int)).f0.length : Int) < 9223372036854775807) :
    Ev (fun k => rules_steps.f k l st va start ru args) (stepsS l (st.length : Int) (va.length : Int) args) := by
  simp only [rules_steps.f, stepsS]
  by_cases c : (l.length : Int) = 0
  · simp only [if_pos c]; exact Ev.now _
  simp only [if_neg c]
  by_cases c2 : (l.length : Int) > 3
  · simp only [if_pos c2]; exact Ev.now _
  simp only [if_neg c2]
  refine Loop.ev (F := fun k j => rules_steps.l0 k args l (l.length : Int) j st va start ru) (Loop.by_ (fun i k => if (rd_T60 l (i : Int)).f1 ≥ (st.length : Int) then some ((i : Int), 3) else (rules_sets.f k (rd_T60 l (i : Int)).f0 (va.length : Int) args).bind fun t => if t = 0 then rules_steps.l0 k args l (l.length : Int) ((i : Int) + 1) st va start ru else some ((i : Int), t)) (fun i hi k => ?_) (fun i hi r hr => ?_) (fun i hi hb r hr => ?_)) (Ev.step (f := fun _ => some (0, 0)) (fun k => ?_) (Ev.now _))
  · simp only [rules_steps.l0]
    rw [if_pos (by omega), if_pos (by omega), if_pos (by omega), w64 (x := (i : Int) + 1) (by omega) (by omega)]
  · rw [stepBad, stepS] at hr
    by_cases c3 : (rd_T60 l (i : Int)).f1 ≥ (st.length : Int)
    · simp only [if_pos c3] at hr ⊢; cases hr; exact Ev.now _
    · simp only [if_neg c3] at hr ⊢
      refine Ev.bind (sets_ev _ _ _ (hl i hi)) ?_
      by_cases c4 : setsS (rd_T60 l (i : Int)).f0 (va.length : Int) args = 0
      · rw [if_pos c4] at hr; cases hr
      · rw [if_neg c4] at hr; cases hr; simp only [if_neg c4]; exact Ev.now _
  · rw [stepBad, stepS] at hb
    by_cases c3 : (rd_T60 l (i : Int)).f1 ≥ (st.length : Int)
    · simp only [if_pos c3] at hb; cases hb
    · simp only [if_neg c3] at hb ⊢
      refine Ev.bind (sets_ev _ _ _ (hl i hi)) ?_
      by_cases c4 : setsS (rd_T60 l (i : Int)).f0 (va.length : Int) args = 0
      · simp only [if_pos c4]; exact hr
      · rw [if_neg c4] at hb; cases hb
  · simp only [rules_steps.l0]; rw [if_neg (by omega)]

/-! ### a rule's lists -/
def listsS (r : S38) (st vars n : Int) : Int × Int × Int × Int :=
  if (fromS r.f2 st).2 = 0 then
    if (guardsS r.f3 vars r.f1).2 = 0 then
      if (stepsS r.f4 st vars r.f1).2 = 0 then (0, 0, 0, 0)
      else ((stepsS r.f4 st vars r.f1).2, n, 9, (stepsS r.f4 st vars r.f1).1)
    else ((guardsS r.f3 vars r.f1).2, n, 8, (guardsS r.f3 vars r.f1).1)
  else ((fromS r.f2 st).2, n, 7, (fromS r.f2 st).1)
theorem lists_zero {r : S38} {st vars n : Int} (h : (listsS r st vars n).1 = 0) : listsS r st vars n = (0, 0, 0, 0) := by
  unfold listsS at h ⊢
  split at h
  · rename_i c1; rw [if_pos c1]
    split at h
    · rename_i c2; rw [if_pos c2]
      split at h
      · rename_i c3; rw [if_pos c3]
      · rename_i c3; exact absurd h c3
    · rename_i c2; exact absurd h c2
  · rename_i c1; exact absurd h c1
end Go.Proofs.Ytdfhbmallnegfaa.Rules
