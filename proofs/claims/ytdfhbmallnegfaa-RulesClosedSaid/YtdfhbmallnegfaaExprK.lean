/- Plain laws on expressions: what the program's Check comes to, without rounds. -/
import Derived.Test.YtdfhbmallnegfaaExprW
import Derived.Test.YtdfhbmallnegfaaPAx5
namespace Go.Proofs.Ytdfhbmallnegfaa.Expr
open Go.RowKit Go.Proofs.Ytdfhbmallnegfaa.PA Go.Proofs.YtdfhbmallnegfaaW.PrintWords Go.Proofs.YtdfhbmallnegfaaW.PrintLast Go.Proofs.YtdfhbmallnegfaaW.PrintMore
set_option linter.unusedVariables false
set_option linter.unusedSimpArgs false


theorem rd_at {i : S71} {pre rest l : List S71} (h : l = pre ++ i :: rest) : rd_T71 l (pre.length : Int) = i := by
  subst h
  simp [rd_T71]
def takesS (op : Int) : Int := if 1 ≤ op ∧ op ≤ 3 then 0 else if op = 4 ∨ op = 5 then 1 else if 6 ≤ op ∧ op ≤ 15 then 2 else if op = 16 then 3 else -1
theorem takes_ev (op : Int) : Ev (fun k => expr_takes.f k op) (takesS op) := by
  refine ⟨3, fun k hk => ?_⟩
  obtain ⟨k, rfl⟩ : ∃ m, k = m + 3 := ⟨k - 3, by omega⟩
  simp only [expr_takes.f, expr_takes.j0, expr_takes.j1, expr_takes.j2, takesS, ge_iff_le, decide_eq_true_eq, beq_iff_eq, if_true, Bool.false_eq_true, if_false]
  repeat' split
  all_goals first | rfl | (exfalso; omega)
theorem takes_le (op : Int) : -1 ≤ takesS op ∧ takesS op ≤ 3 := by
  unfold takesS
  repeat' split
  all_goals omega
def valueS (n : Int) : Bool := decide (-1099511627776 ≤ n ∧ n ≤ 1099511627776)
theorem valueS_iff (n : Int) : valueS n = true ↔ -1099511627776 ≤ n ∧ n ≤ 1099511627776 := by simp [valueS]
theorem value_f (n : Int) : expr_value.f n = some (valueS n) := by
  simp only [expr_value.f, valueS]
  by_cases h : n ≥ -1099511627776
  · rw [if_pos h]; simp [h]
  · rw [if_neg h]; simp [h]
def namedS (f0 f1 vars args : Int) : Bool := if f0 = 1 then valueS f1 else if f0 = 2 then decide (0 ≤ f1 ∧ f1 < vars) else if f0 = 3 then decide (0 ≤ f1 ∧ f1 < args) else decide (f1 = 0)
theorem named_f (f0 f1 vars args : Int) : expr_named.f f0 f1 vars args = some (namedS f0 f1 vars args) := by
  simp only [expr_named.f, namedS, value_f, Option.bind_some, ge_iff_le]
  by_cases h1 : f0 = 1
  · rw [if_pos h1, if_pos h1]
  · rw [if_neg h1, if_neg h1]
    by_cases h2 : f0 = 2
    · rw [if_pos h2, if_pos h2]
      by_cases h : 0 ≤ f1
      · rw [if_pos h]; simp [h]
      · rw [if_neg h]; simp [h]
    · rw [if_neg h2, if_neg h2]
      by_cases h3 : f0 = 3
      · rw [if_pos h3, if_pos h3]
        by_cases h : 0 ≤ f1
        · rw [if_pos h]; simp [h]
        · rw [if_neg h]; simp [h]
      · rw [if_neg h3, if_neg h3]
        rfl

/-! ### Check -/
def chk (vars args n : Int) : List S71 → Int → Int → Int × Int
  | [], at_, row => if row = 1 then (0, 0) else (n, 6)
  | i :: rest, at_, row => if takesS i.f0 < 0 then (at_, 2) else if namedS i.f0 i.f1 vars args = true then (if row < takesS i.f0 then (at_, 5) else chk vars args n rest (at_ + 1) (row + (1 - takesS i.f0))) else (at_, 3)
def checkS (l : List S71) (vars args : Int) : Int × Int := if vars < 0 ∨ args < 0 then (0, 2) else if (l.length : Int) > 31 then (0, 4) else chk vars args l.length l 0 0
theorem check_l0 (l : List S71) (vars args : Int) (hl : (l.length : Int) ≤ 31) : ∀ (rest pre : List S71) (row : Int), l = pre ++ rest → 0 ≤ row → row ≤ pre.length →
    Ev (fun k => expr_Check.l0 k l vars args row l (l.length : Int) (pre.length : Int)) (chk vars args l.length rest pre.length row)
  | [], pre, row, h, h0, h1 => by
    have hlen : pre.length = l.length := by rw [h, List.append_nil]
    refine Ev.step (f := fun _ => some (chk vars args l.length [] pre.length row)) (fun k => ?_) (Ev.now _)
    simp only [expr_Check.l0]
    rw [if_neg (by omega)]
    unfold chk
    split <;> rfl
  | i :: rest, pre, row, h, h0, h1 => by
    have hlen : l.length = pre.length + (rest.length + 1) := by rw [h, List.length_append, List.length_cons]
    have hrd := rd_at h
    have ht := takes_le i.f0
    refine Ev.step (f := fun k => (expr_takes.f k i.f0).bind fun t => if t < 0 then some ((pre.length : Int), 2) else (expr_named.f i.f0 i.f1 vars args).bind fun q => if q = true then (if row < t then some ((pre.length : Int), 5) else expr_Check.l0 k l vars args (wrap64 (row + wrap64 (1 - t))) l (l.length : Int) (wrap64 ((pre.length : Int) + 1))) else some ((pre.length : Int), 3)) (fun k => ?_) ?_
    · simp only [expr_Check.l0]
      rw [if_pos (by omega), if_pos (by omega), if_pos (by omega), hrd]
    · refine Ev.bind (takes_ev i.f0) ?_
      simp only [named_f, Option.bind_some, chk]
      by_cases c1 : takesS i.f0 < 0
      · simp only [if_pos c1]; exact Ev.now _
      · simp only [if_neg c1]
        by_cases c2 : namedS i.f0 i.f1 vars args = true
        · simp only [if_pos c2]
          by_cases c3 : row < takesS i.f0
          · simp only [if_pos c3]; exact Ev.now _
          · simp only [if_neg c3]
            have := check_l0 l vars args hl rest (pre ++ [i]) (row + (1 - takesS i.f0)) (by rw [h]; simp) (by omega) (by simp; omega)
            have e1 : wrap64 (row + wrap64 (1 - takesS i.f0)) = row + (1 - takesS i.f0) := by rw [w64 (x := 1 - takesS i.f0) (by omega) (by omega), w64 (by omega) (by omega)]
            have e2 : wrap64 ((pre.length : Int) + 1) = (pre.length : Int) + 1 := w64 (by omega) (by omega)
            rw [e1, e2]
            have e3 : (((pre ++ [i]).length : Nat) : Int) = (pre.length : Int) + 1 := by simp
            rw [e3] at this
            exact this
        · simp only [if_neg c2]; exact Ev.now _
theorem check_ev (l : List S71) (vars args : Int) : Ev (fun k => expr_Check.f k l vars args) (checkS l vars args) := by
  unfold checkS
  have key : Ev (fun k => expr_Check.j0 k l vars args (decide (vars < 0 ∨ args < 0))) (if vars < 0 ∨ args < 0 then (0, 2) else if (l.length : Int) > 31 then (0, 4) else chk vars args l.length l 0 0) := by
    by_cases c : vars < 0 ∨ args < 0
    · rw [if_pos c]
      refine Ev.step (f := fun _ => some (0, 2)) (fun k => ?_) (Ev.now _)
      simp only [expr_Check.j0, c, decide_true, if_true]
    · rw [if_neg c]
      by_cases c2 : (l.length : Int) > 31
      · rw [if_pos c2]
        refine Ev.step (f := fun _ => some (0, 4)) (fun k => ?_) (Ev.now _)
        simp only [expr_Check.j0, c, decide_false, Bool.false_eq_true, if_false, if_pos c2]
      · rw [if_neg c2]
        refine Ev.step (f := fun k => expr_Check.l0 k l vars args 0 l (l.length : Int) 0) (fun k => ?_) (check_l0 l vars args (by omega) l [] 0 rfl (by omega) (by simp))
        simp only [expr_Check.j0, c, decide_false, Bool.false_eq_true, if_false, if_neg c2]
  refine Ev.congr (fun k => ?_) key
  simp only [expr_Check.f]
  by_cases c : vars < 0
  · rw [if_pos c]; simp [c]
  · rw [if_neg c]; simp [c]
end Go.Proofs.Ytdfhbmallnegfaa.Expr
