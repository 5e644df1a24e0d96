/- Plain laws on expressions: what Eval comes to, in the program and in the reference. -/
import Derived.Test.YthhnecbfcpmpbaaExprB
import Derived.Test.YthhnecbfcpmpbaaPAx5
namespace Go.Proofs.Ythhnecbfcpmpbaa.Expr
open Go.RowKit Go.Proofs.Ythhnecbfcpmpbaa.PA Go.Proofs.YthhnecbfcpmpbaaW.PrintWords Go.Proofs.YthhnecbfcpmpbaaW.PrintLast Go.Proofs.YthhnecbfcpmpbaaW.PrintMore
set_option linter.unusedVariables false
set_option linter.unusedSimpArgs false

def AllV (l : List Int) : Prop := ∀ x ∈ l, valueS x = true
theorem rd_val {l : List Int} (h : AllV l) (i : Int) : valueS (rd l i) = true := by
  unfold rd
  rw [List.getD_eq_getElem?_getD]
  cases hi : l[i.toNat]? with
  | none => rfl
  | some x => exact h x (List.mem_of_getElem? hi)
theorem allV_drop {l : List Int} (h : AllV l) (n : Nat) : AllV (l.drop n) := fun x hx => h x (List.mem_of_mem_drop hx)
theorem allV_take {l : List Int} (h : AllV l) (n : Nat) : AllV (l.take n) := fun x hx => h x (List.mem_of_mem_take hx)
theorem allV_snoc {l : List Int} (h : AllV l) {x : Int} (hx : valueS x = true) : AllV (l ++ [x]) := by
  intro y hy
  rcases List.mem_append.1 hy with hy | hy
  · exact h y hy
  · rw [List.mem_singleton.1 hy]; exact hx
theorem rd_nat {l pre rest : List Int} {x : Int} (h : l = pre ++ x :: rest) : rd l (pre.length : Int) = x := by
  subst h
  simp [rd]
theorem values_l0 (l : List Int) (hl : (l.length : Int) < 9223372036854775807) : ∀ (rest pre : List Int), l = pre ++ rest → Ev (fun k => expr_values.l0 k l (l.length : Int) (pre.length : Int)) (rest.all valueS)
  | [], pre, h => by
    have hlen : pre.length = l.length := by rw [h, List.append_nil]
    refine Ev.step (f := fun _ => some true) (fun k => ?_) (Ev.now _)
    simp only [expr_values.l0]
    rw [if_neg (by omega)]
  | x :: rest, pre, h => by
    have hlen : l.length = pre.length + (rest.length + 1) := by rw [h, List.length_append, List.length_cons]
    have hrd := rd_nat h
    have ih := values_l0 l hl rest (pre ++ [x]) (by rw [h]; simp)
    have e3 : (((pre ++ [x]).length : Nat) : Int) = (pre.length : Int) + 1 := by simp
    rw [e3] at ih
    have e2 : wrap64 ((pre.length : Int) + 1) = (pre.length : Int) + 1 := w64 (by omega) (by omega)
    by_cases c : valueS x = true
    · rw [List.all_cons, c, Bool.true_and]
      refine Ev.step (fun k => ?_) ih
      simp only [expr_values.l0]
      rw [if_pos (by omega), if_pos (by omega), if_pos (by omega), hrd, value_f, Option.bind_some, if_pos c, e2]
    · have c' : valueS x = false := by simpa using c
      rw [List.all_cons, c', Bool.false_and]
      refine Ev.step (f := fun _ => some false) (fun k => ?_) (Ev.now _)
      simp only [expr_values.l0]
      rw [if_pos (by omega), if_pos (by omega), if_pos (by omega), hrd, value_f, Option.bind_some, if_neg c]
theorem values_ev (l : List Int) (hl : (l.length : Int) < 9223372036854775807) : Ev (fun k => expr_values.f k l) (l.all valueS) := by
  simp only [expr_values.f]
  exact values_l0 l hl l [] rfl

def evS (l1 l2 : List Int) : List S45 → List Int → Option (List Int)
  | [], st => some st
  | i :: rest, st =>
    if i.f0 = 1 then evS l1 l2 rest (st ++ [i.f1]) else if i.f0 = 2 then evS l1 l2 rest (st ++ [rd l1 i.f1]) else if i.f0 = 3 then evS l1 l2 rest (st ++ [rd l2 i.f1])
    else (madeS i.f0 (st.drop (st.length - (takesS i.f0).toNat))).bind fun n => evS l1 l2 rest (st.take (st.length - (takesS i.f0).toNat) ++ [n])
def outS (o : Option (List Int)) : Int × Int := match o with | some st => (rd st 0, 0) | none => (0, 3)
def evalS (l : List S45) (l1 l2 : List Int) : Int × Int :=
  if (checkS l l1.length l2.length).2 = 0 then (if l1.all valueS = true then (if l2.all valueS = true then outS (evS l1 l2 l []) else (0, 2)) else (0, 2)) else (0, (checkS l l1.length l2.length).2)
theorem chk_cons {vars args n at_ row : Int} {i : S45} {rest : List S45} (h : (chk vars args n (i :: rest) at_ row).2 = 0) :
    0 ≤ takesS i.f0 ∧ namedS i.f0 i.f1 vars args = true ∧ takesS i.f0 ≤ row ∧ (chk vars args n rest (at_ + 1) (row + (1 - takesS i.f0))).2 = 0 := by
  unfold chk at h
  by_cases c1 : takesS i.f0 < 0
  · rw [if_pos c1] at h; exact absurd h (by simp)
  · rw [if_neg c1] at h
    by_cases c2 : namedS i.f0 i.f1 vars args = true
    · rw [if_pos c2] at h
      by_cases c3 : row < takesS i.f0
      · rw [if_pos c3] at h; exact absurd h (by simp)
      · rw [if_neg c3] at h; exact ⟨by omega, c2, by omega, h⟩
    · rw [if_neg c2] at h; exact absurd h (by simp)
theorem takes_op {op : Int} (h : 0 ≤ takesS op) : 1 ≤ op ∧ op ≤ 16 := by
  unfold takesS at h
  split at h
  · omega
  split at h
  · omega
  split at h
  · omega
  split at h
  · omega
  · omega
theorem takes_low {op : Int} (h : 1 ≤ op) (h' : op ≤ 3) : takesS op = 0 := by unfold takesS; rw [if_pos ⟨h, h'⟩]
theorem takes_pos {op : Int} (h : 4 ≤ op) (h' : op ≤ 16) : 1 ≤ takesS op := by
  unfold takesS
  rw [if_neg (by omega)]
  split
  · omega
  split
  · omega
  split
  · omega
  · omega
theorem named_1 {f1 vars args : Int} (h : namedS 1 f1 vars args = true) : valueS f1 = true := by simpa [namedS] using h
theorem named_2 {f1 vars args : Int} (h : namedS 2 f1 vars args = true) : 0 ≤ f1 ∧ f1 < vars := by simpa [namedS] using h
theorem named_3 {f1 vars args : Int} (h : namedS 3 f1 vars args = true) : 0 ≤ f1 ∧ f1 < args := by simpa [namedS] using h
/-- One instruction more. -/
theorem eval_l0 (l : List S45) (l1 l2 : List Int) (n : Int) (hl : (l.length : Int) ≤ 31) (v1 : AllV l1) (v2 : AllV l2) : ∀ (rest pre : List S45) (st : List Int), l = pre ++ rest → (chk l1.length l2.length n rest pre.length st.length).2 = 0 → st.length ≤ pre.length → AllV st →
    Ev (fun k => expr_Eval.l0 k l l1 l2 st (pre.length : Int)) (outS (evS l1 l2 rest st))
  | [], pre, st, h, hc, hs, hv => by
    have hlen : pre.length = l.length := by rw [h, List.append_nil]
    refine Ev.step (f := fun _ => some (rd st 0, 0)) (fun k => ?_) (Ev.now _)
    have h1 : (st.length : Int) = 1 := by
      unfold chk at hc
      by_cases c : (st.length : Int) = 1
      · exact c
      · rw [if_neg c] at hc; exact absurd hc (by simp)
    simp only [expr_Eval.l0]
    rw [if_neg (by omega), if_pos (by omega)]
  | i :: rest, pre, st, h, hc, hs, hv => by
    have hlen : l.length = pre.length + (rest.length + 1) := by rw [h, List.length_append, List.length_cons]
    have hrd := rd_at h
    obtain ⟨ht0, hn, htr, hc'⟩ := chk_cons hc
    obtain ⟨o1, o16⟩ := takes_op ht0
    have e3 : (((pre ++ [i]).length : Nat) : Int) = (pre.length : Int) + 1 := by simp
    -- a number is put behind st2
    have push : ∀ (st2 : List Int) (v : Int), (st2.length : Int) + 1 = st.length + (1 - takesS i.f0) → AllV st2 → valueS v = true → Ev (fun k => expr_Eval.l1 k l l1 l2 st2 (pre.length : Int) v) (outS (evS l1 l2 rest (st2 ++ [v]))) := by
      intro st2 v hl2 hv2 hvv
      have ih := eval_l0 l l1 l2 n hl v1 v2 rest (pre ++ [i]) (st2 ++ [v]) (by rw [h]; simp) (by
        rw [e3, show (((st2 ++ [v]).length : Nat) : Int) = st.length + (1 - takesS i.f0) by rw [← hl2]; simp]
        exact hc') (by simp; omega) (allV_snoc hv2 hvv)
      rw [e3] at ih
      refine Ev.step (fun k => ?_) ih
      simp only [expr_Eval.l1]
      rw [if_pos (by omega)]
    by_cases c1 : i.f0 = 1
    · have ht := takes_low (op := i.f0) (by omega) (by omega)
      refine Ev.step (f := fun k => expr_Eval.l1 k l l1 l2 st (pre.length : Int) i.f1) (fun k => ?_) ?_
      · simp only [expr_Eval.l0]
        rw [if_pos (by omega), if_pos (by omega), hrd, if_pos c1]
      · have := push st i.f1 (by omega) hv (named_1 (by rw [c1] at hn; exact hn))
        rw [evS, if_pos c1]; exact this
    · by_cases c2 : i.f0 = 2
      · have ht := takes_low (op := i.f0) (by omega) (by omega)
        obtain ⟨b1, b2⟩ := named_2 (by rw [c2] at hn; exact hn)
        refine Ev.step (f := fun k => expr_Eval.l1 k l l1 l2 st (pre.length : Int) (rd l1 i.f1)) (fun k => ?_) ?_
        · simp only [expr_Eval.l0]
          rw [if_pos (by omega), if_pos (by omega), hrd, if_neg c1, if_pos c2, if_pos b1, if_pos b2]
        · have := push st (rd l1 i.f1) (by omega) hv (rd_val v1 _)
          rw [evS, if_neg c1, if_pos c2]; exact this
      · by_cases c3 : i.f0 = 3
        · have ht := takes_low (op := i.f0) (by omega) (by omega)
          obtain ⟨b1, b2⟩ := named_3 (by rw [c3] at hn; exact hn)
          refine Ev.step (f := fun k => expr_Eval.l1 k l l1 l2 st (pre.length : Int) (rd l2 i.f1)) (fun k => ?_) ?_
          · simp only [expr_Eval.l0]
            rw [if_pos (by omega), if_pos (by omega), hrd, if_neg c1, if_neg c2, if_pos c3, if_pos b1, if_pos b2]
          · have := push st (rd l2 i.f1) (by omega) hv (rd_val v2 _)
            rw [evS, if_neg c1, if_neg c2, if_pos c3]; exact this
        · have hd : ((st.drop (st.length - (takesS i.f0).toNat)).length : Int) = takesS i.f0 := by rw [List.length_drop]; omega
          have htk : ((st.take (st.length - (takesS i.f0).toNat)).length : Int) = st.length - takesS i.f0 := by rw [List.length_take]; omega
          obtain ⟨r, hr, hf⟩ := made_ev i.f0 (st.drop (st.length - (takesS i.f0).toNat)) (rd_val (allV_drop hv _)) (by omega) o16 hd
          refine Ev.step (f := fun k => (expr_takes.f k i.f0).bind fun t => if 0 ≤ t then (if t ≤ (st.length : Int) then (expr_made.f k i.f0 (st.drop (st.length - t.toNat))).bind fun q => (if q.2 = true then expr_Eval.l1 k l l1 l2 (st.take (st.length - t.toNat)) (pre.length : Int) q.1 else some (0, 3)) else none) else none) (fun k => ?_) ?_
          · simp only [expr_Eval.l0]
            rw [if_pos (by omega), if_pos (by omega), hrd, if_neg c1, if_neg c2, if_neg c3]
          · refine Ev.bind (takes_ev i.f0) ?_
            simp only [if_pos ht0, if_pos htr]
            refine Ev.bind hr ?_
            rw [evS, if_neg c1, if_neg c2, if_neg c3]
            cases hq : r.2 with
            | true =>
              have hm := hf.1 hq
              simp only [if_true, hm, Option.bind_some]
              exact push _ _ (by omega) (allV_take hv _) (madeS_val (rd_val (allV_drop hv _)) hm)
            | false =>
              have hm := hf.2 hq
              simp only [Bool.false_eq_true, if_false, hm, Option.bind_none]
              exact Ev.now _
theorem allV_iff (l : List Int) : l.all valueS = true ↔ AllV l := by simp [AllV, List.all_eq_true]
theorem eval_ev (l : List S45) (l1 l2 : List Int) (h1 : (l1.length : Int) < 9223372036854775807) (h2 : (l2.length : Int) < 9223372036854775807) : Ev (fun k => expr_Eval.f k l l1 l2) (evalS l l1 l2) := by
  unfold evalS
  simp only [expr_Eval.f]
  refine Ev.bind (check_ev l l1.length l2.length) ?_
  by_cases c : (checkS l l1.length l2.length).2 = 0
  · simp only [if_pos c]
    refine Ev.bind (values_ev l1 h1) ?_
    by_cases a1 : l1.all valueS = true
    · simp only [if_pos a1]
      refine Ev.bind (values_ev l2 h2) ?_
      by_cases a2 : l2.all valueS = true
      · simp only [if_pos a2]
        unfold checkS at c
        have g1 : ¬ ((l1.length : Int) < 0 ∨ (l2.length : Int) < 0) := by omega
        rw [if_neg g1] at c
        by_cases g2 : (l.length : Int) > 31
        · rw [if_pos g2] at c; exact absurd c (by simp)
        · rw [if_neg g2] at c
          exact eval_l0 l l1 l2 l.length (by omega) ((allV_iff _).1 a1) ((allV_iff _).1 a2) l [] [] rfl c (Nat.le_refl _) (fun x hx => by cases hx)
      · simp only [if_neg a2]; exact Ev.now _
    · simp only [if_neg a1]; exact Ev.now _
  · simp only [if_neg c]; exact Ev.now _

end Go.Proofs.Ythhnecbfcpmpbaa.Expr
