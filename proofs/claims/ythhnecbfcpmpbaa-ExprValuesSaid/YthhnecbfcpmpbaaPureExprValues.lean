/- Proved: for every list of instructions, all lists of variables and arguments and every other number: what an expression comes to is a value, and hangs on what it names alone.
   Conditions: none beyond the row's own. -/
import Derived.Test.YthhnecbfcpmpbaaExprAwake
import Derived.Test.YthhnecbfcpmpbaaExprF
import Derived.Test.YthhnecbfcpmpbaaSaidExprValues
namespace Go.Proofs.Ythhnecbfcpmpbaa.Pure
open Go.RowKit Go.Proofs.Ythhnecbfcpmpbaa.PA Go.Proofs.YthhnecbfcpmpbaaW.PrintWords Go.Proofs.YthhnecbfcpmpbaaW.PrintMore Go.Proofs.Ythhnecbfcpmpbaa.Expr
set_option linter.unusedVariables false
set_option linter.unusedSimpArgs false
theorem set_at (pre rest : List Int) (v x : Int) : (pre ++ v :: rest).set pre.length x = pre ++ x :: rest := by
  rw [List.set_append_right _ _ (Nat.le_refl _)]; simp
theorem values_l1 (code : List S45) (other n : Int) (u2 : List Bool) (xs ys : List Int) (hl : (ys.length : Int) < 9223372036854775807) {r : Bool} (hr : Ev (fun k => (expr_Eval.f k code xs (modR u2 4 other 0 ys)).bind fun b => if b.2 = 0 then some (b.1 == n) else none) r) : ∀ (rest pre : List Int), ys.length = pre.length + rest.length → pre ++ modR u2 4 other pre.length rest = modR u2 4 other 0 ys →
    Ev (fun k => surmiselaw03_ExprValues.l1 k code other n u2 xs (pre ++ rest) (pre.length : Int)) r
  | [], pre, hlen, h => by
    refine Ev.step (fun k => ?_) hr
    simp only [surmiselaw03_ExprValues.l1]
    rw [if_neg (by simp), ← h]
    rfl
  | v :: rest, pre, hlen, h => by
    rw [List.length_cons] at hlen
    have e2 : wrap64 ((pre.length : Int) + 1) = (pre.length : Int) + 1 := w64 (by omega) (by omega)
    have next : ∀ x : Int, x = (if modC u2 4 pre.length = true then other else v) → Ev (fun k => surmiselaw03_ExprValues.l1 k code other n u2 xs (pre ++ x :: rest) (wrap64 ((pre.length : Int) + 1))) r := by
      intro x hx
      have ih := values_l1 code other n u2 xs ys hl hr rest (pre ++ [x]) (by simp; omega) (by
        rw [← h, modR, hx]; simp)
      rw [e2]
      simpa using ih
    have hin : (pre.length : Int) < ((pre ++ v :: rest).length : Int) := by simp; omega
    by_cases c1 : (pre.length : Int) < 4
    · by_cases c2 : (u2.length : Int) ≤ (pre.length : Int)
      · have hm : modC u2 4 pre.length = true := by
          unfold modC
          rw [decide_eq_true (show pre.length < 4 by omega), List.getD_eq_getElem?_getD, List.getElem?_eq_none (by omega)]; rfl
        refine Ev.step (fun k => ?_) (next other (by rw [if_pos hm]))
        simp only [surmiselaw03_ExprValues.l1]
        rw [if_pos hin, if_pos c1, if_pos (by omega), if_pos (by omega)]
        simp only [Int.toNat_natCast, set_at]
      · have hg : rdOf false u2 (pre.length : Int) = u2.getD pre.length false := rfl
        cases hb : u2.getD pre.length false with
        | true =>
          have hm : modC u2 4 pre.length = false := by unfold modC; rw [hb]; simp
          refine Ev.step (fun k => ?_) (next v (by rw [hm]; rfl))
          simp only [surmiselaw03_ExprValues.l1]
          rw [if_pos hin, if_pos c1, if_neg (by omega), if_pos (by omega), if_pos (by omega), hg, hb, if_pos rfl]
        | false =>
          have hm : modC u2 4 pre.length = true := by unfold modC; rw [hb, decide_eq_true (show pre.length < 4 by omega)]; rfl
          refine Ev.step (fun k => ?_) (next other (by rw [if_pos hm]))
          simp only [surmiselaw03_ExprValues.l1]
          rw [if_pos hin, if_pos c1, if_neg (by omega), if_pos (by omega), if_pos (by omega), hg, hb, if_neg (by decide)]
          simp only [Int.toNat_natCast, set_at]
    · have hm : modC u2 4 pre.length = false := by unfold modC; rw [decide_eq_false (show ¬ pre.length < 4 by omega)]; rfl
      refine Ev.step (fun k => ?_) (next v (by rw [hm]; rfl))
      simp only [surmiselaw03_ExprValues.l1]
      rw [if_pos hin, if_neg c1]
theorem values_l0 (code : List S45) (other n : Int) (u1 u2 : List Bool) (xs ys : List Int) (hl : (xs.length : Int) < 9223372036854775807) {r : Bool} (hr : Ev (fun k => surmiselaw03_ExprValues.l1 k code other n u2 (modR u1 6 other 0 xs) ys 0) r) : ∀ (rest pre : List Int), xs.length = pre.length + rest.length → pre ++ modR u1 6 other pre.length rest = modR u1 6 other 0 xs →
    Ev (fun k => surmiselaw03_ExprValues.l0 k code other n u1 u2 (pre ++ rest) ys (pre.length : Int)) r
  | [], pre, hlen, h => by
    refine Ev.step (fun k => ?_) hr
    simp only [surmiselaw03_ExprValues.l0]
    rw [if_neg (by simp), ← h]
    rfl
  | v :: rest, pre, hlen, h => by
    rw [List.length_cons] at hlen
    have e2 : wrap64 ((pre.length : Int) + 1) = (pre.length : Int) + 1 := w64 (by omega) (by omega)
    have next : ∀ x : Int, x = (if modC u1 6 pre.length = true then other else v) → Ev (fun k => surmiselaw03_ExprValues.l0 k code other n u1 u2 (pre ++ x :: rest) ys (wrap64 ((pre.length : Int) + 1))) r := by
      intro x hx
      have ih := values_l0 code other n u1 u2 xs ys hl hr rest (pre ++ [x]) (by simp; omega) (by
        rw [← h, modR, hx]; simp)
      rw [e2]
      simpa using ih
    have hin : (pre.length : Int) < ((pre ++ v :: rest).length : Int) := by simp; omega
    by_cases c1 : (pre.length : Int) < 6
    · by_cases c2 : (u1.length : Int) ≤ (pre.length : Int)
      · have hm : modC u1 6 pre.length = true := by
          unfold modC
          rw [decide_eq_true (show pre.length < 6 by omega), List.getD_eq_getElem?_getD, List.getElem?_eq_none (by omega)]; rfl
        refine Ev.step (fun k => ?_) (next other (by rw [if_pos hm]))
        simp only [surmiselaw03_ExprValues.l0]
        rw [if_pos hin, if_pos c1, if_pos (by omega), if_pos (by omega)]
        simp only [Int.toNat_natCast, set_at]
      · have hg : rdOf false u1 (pre.length : Int) = u1.getD pre.length false := rfl
        cases hb : u1.getD pre.length false with
        | true =>
          have hm : modC u1 6 pre.length = false := by unfold modC; rw [hb]; simp
          refine Ev.step (fun k => ?_) (next v (by rw [hm]; rfl))
          simp only [surmiselaw03_ExprValues.l0]
          rw [if_pos hin, if_pos c1, if_neg (by omega), if_pos (by omega), if_pos (by omega), hg, hb, if_pos rfl]
        | false =>
          have hm : modC u1 6 pre.length = true := by unfold modC; rw [hb, decide_eq_true (show pre.length < 6 by omega)]; rfl
          refine Ev.step (fun k => ?_) (next other (by rw [if_pos hm]))
          simp only [surmiselaw03_ExprValues.l0]
          rw [if_pos hin, if_pos c1, if_neg (by omega), if_pos (by omega), if_pos (by omega), hg, hb, if_neg (by decide)]
          simp only [Int.toNat_natCast, set_at]
    · have hm : modC u1 6 pre.length = false := by unfold modC; rw [decide_eq_false (show ¬ pre.length < 6 by omega)]; rfl
      refine Ev.step (fun k => ?_) (next v (by rw [hm]; rfl))
      simp only [surmiselaw03_ExprValues.l0]
      rw [if_pos hin, if_neg c1]
theorem ExprValues : Go.Proofs.Ythhnecbfcpmpbaa.SaidExprValues.surmiselaw03_ExprValues.Pure := by
  rintro ⟨code, xs, ys, other⟩ ⟨h0, h1, h2, _⟩
  have l0 : (code.length : Int) < 9223372036854775807 := by have := h0.2.1; simp only at this; omega
  have l1 : (xs.length : Int) < 17592186044416 := by have := h1.2.1; simp only at this; omega
  have l2 : (ys.length : Int) < 17592186044416 := by have := h2.2.1; simp only at this; omega
  refine Ev.rounds (g := fun k => surmiselaw03_ExprValues.f k code xs ys other) ?_
  simp only [surmiselaw03_ExprValues.f]
  refine Ev.bind (eval_ev code xs ys (by omega) (by omega)) (Ev.bind awake_ev ?_)
  simp only [if_true]
  by_cases c : (evalS code xs ys).2 = 0
  · obtain ⟨hc, v1, v2, st, hst, he, hv⟩ := evalS_ok c
    have hn : valueS (evalS code xs ys).1 = true := by rw [he]; exact rd_val hv 0
    have cb : ((evalS code xs ys).2 != 0) = false := by rw [c]; rfl
    rw [cb]
    refine Ev.step (f := fun k => surmiselaw03_ExprValues.j1 k code xs ys other (evalS code xs ys).1 (!(valueS other))) (fun k => ?_) ?_
    · simp only [surmiselaw03_ExprValues.j0, Bool.false_eq_true, if_false, value_ref, Option.bind_some, hn, if_true]
    · cases ho : valueS other with
      | false =>
        refine Ev.step (f := fun _ => some true) (fun k => ?_) (Ev.now _)
        simp only [surmiselaw03_ExprValues.j1, Bool.not_false, if_true, value_ref, Option.bind_some, hn]
      | true =>
        refine Ev.step (f := fun k => (expr_Uses.f k code).bind fun b => surmiselaw03_ExprValues.l0 k code other (evalS code xs ys).1 b.1 b.2 xs ys 0) (fun k => ?_) ?_
        · have g1 : xs.length < 17592186044416 := by omega
          have g2 : ys.length < 17592186044416 := by omega
          simp only [surmiselaw03_ExprValues.j1, Bool.not_true, Bool.false_eq_true, if_false, Option.bind_some, List.length_nil, Nat.zero_add, List.nil_append, if_pos g1, if_pos g2]
        · refine Ev.bind (uses_ev code l0) ?_
          have last : evalS code (modR (usesS code 2 6) 6 other 0 xs) (modR (usesS code 3 4) 4 other 0 ys) = evalS code xs ys := by
            have hcr : (chk xs.length ys.length code.length code 0 0).2 = 0 := by
              unfold checkS at hc
              rw [if_neg (by omega)] at hc
              by_cases g2 : (code.length : Int) > 31
              · rw [if_pos g2] at hc; exact absurd hc (by simp)
              · rw [if_neg g2] at hc; exact hc
            have hnm : ∀ (l : List S45) (at_ row : Int), (chk xs.length ys.length code.length l at_ row).2 = 0 → ∀ i ∈ l, namedS i.f0 i.f1 xs.length ys.length = true := by
              intro l
              induction l with
              | nil => intro _ _ _ i hi; cases hi
              | cons j r ih =>
                intro at_ row h i hi
                obtain ⟨_, g2, _, g4⟩ := chk_cons h
                rcases List.mem_cons.1 hi with rfl | hi
                · exact g2
                · exact ih _ _ g4 i hi
            have hnn := hnm code 0 0 hcr
            have ee := evS_congr xs ys (modR (usesS code 2 6) 6 other 0 xs) (modR (usesS code 3 4) 4 other 0 ys) code [] (fun i hi h2 => rd_modR (by
              have := hnn i hi
              rw [h2] at this
              exact named_used (lim := 6) hi h2 (named_2 this).1)) (fun i hi h3 => rd_modR (by
              have := hnn i hi
              rw [h3] at this
              exact named_used (lim := 4) hi h3 (named_3 this).1))
            have a1 := (allV_iff _).2 v1
            have a2 := (allV_iff _).2 v2
            have b1 := (allV_iff _).2 (modR_allV (u := usesS code 2 6) (lim := 6) (j := 0) ho v1)
            have b2 := (allV_iff _).2 (modR_allV (u := usesS code 3 4) (lim := 4) (j := 0) ho v2)
            unfold evalS
            rw [modR_len, modR_len, if_pos hc, if_pos hc, if_pos a1, if_pos a2, if_pos b1, if_pos b2, ee]
          refine values_l0 code other _ _ _ xs ys (by omega) ?_ xs [] (by simp) rfl
          refine values_l1 code other _ _ _ ys (by omega) ?_ ys [] (by simp) rfl
          refine Ev.bind (eval_ev code _ _ (by rw [modR_len]; omega) (by rw [modR_len]; omega)) ?_
          simp only [last, if_pos c, beq_self_eq_true]
          exact Ev.now _
  · have cb : ((evalS code xs ys).2 != 0) = true := by simpa using c
    rw [cb]
    refine Ev.step (f := fun k => (surmiselaw03_awake.f k).bind fun t => if t = true then some ((evalS code xs ys).1 == 0) else none) (fun k => ?_) ?_
    · simp only [surmiselaw03_ExprValues.j0, if_true]
    · refine Ev.bind awake_ev ?_
      simp only [if_true, evalS_zero c, beq_self_eq_true]
      exact Ev.now _
end Go.Proofs.Ythhnecbfcpmpbaa.Pure
