/- Plain laws on expressions: what is named, and how many numbers wait, in the program and in the reference. -/
import Derived.Test.YthhnecbfcpmpbaaExprA
import Derived.Test.YthhnecbfcpmpbaaPAx9
namespace Go.Proofs.Ythhnecbfcpmpbaa.Expr
open Go.RowKit Go.Proofs.Ythhnecbfcpmpbaa.PA Go.Proofs.YthhnecbfcpmpbaaW.PrintWords Go.Proofs.YthhnecbfcpmpbaaW.PrintLast Go.Proofs.YthhnecbfcpmpbaaW.PrintMore
set_option linter.unusedVariables false
set_option linter.unusedSimpArgs false

/-! ### Uses -/
def anyN (l : List S45) (op n : Int) : Bool := l.any fun i => i.f0 == op && i.f1 == n
def topS (op most : Int) : List S45 → Int → Int
  | [], t => t
  | i :: r, t => topS op most r (if i.f0 = op ∧ 0 ≤ i.f1 ∧ i.f1 < most then mx t i.f1 else t)
theorem topS_append (op most : Int) : ∀ (a b : List S45) (t : Int), topS op most (a ++ b) t = topS op most b (topS op most a t)
  | [], b, t => rfl
  | i :: a, b, t => by rw [List.cons_append, topS, topS, topS_append]
theorem le_mx (a b : Int) : a ≤ mx a b ∧ b ≤ mx a b := by unfold mx; split <;> omega
theorem mx_cases (a b : Int) : mx a b = a ∨ mx a b = b := by unfold mx; split <;> omega
theorem topS_ge (op most : Int) : ∀ (l : List S45) (t : Int), t ≤ topS op most l t
  | [], t => by rw [topS]; omega
  | i :: r, t => by
    rw [topS]
    refine Int.le_trans ?_ (topS_ge op most r _)
    split
    · exact (le_mx t i.f1).1
    · exact Int.le_refl _
theorem topS_lt (op most : Int) (hm : 0 ≤ most) : ∀ (l : List S45) (t : Int), t < most → topS op most l t < most
  | [], t, h => by rw [topS]; exact h
  | i :: r, t, h => by
    rw [topS]
    refine topS_lt op most hm r _ ?_
    split
    · rename_i c; rcases mx_cases t i.f1 with e | e <;> omega
    · exact h
theorem topS_mem (op most : Int) : ∀ (l : List S45) (t n : Int), anyN l op n = true → 0 ≤ n → n < most → n ≤ topS op most l t
  | [], t, n, h, _, _ => by simp [anyN] at h
  | i :: r, t, n, h, h0, h1 => by
    rw [topS]
    rw [anyN, List.any_cons, Bool.or_eq_true] at h
    rcases h with h | h
    · rw [Bool.and_eq_true, beq_iff_eq, beq_iff_eq] at h
      obtain ⟨e0, rfl⟩ := h
      rw [if_pos ⟨e0, h0, h1⟩]
      have := topS_ge op most r (mx t i.f1)
      have := (le_mx t i.f1).2
      omega
    · exact topS_mem op most r _ n h h0 h1
/-- What is named: a list of Bools up to the greatest name. -/
def usesS (l : List S45) (op most : Int) : List Bool := (List.range (topS op most l (-1) + 1).toNat).map fun (n : Nat) => anyN l op (n : Int)
theorem usesS_len (l : List S45) (op most : Int) : (usesS l op most).length = (topS op most l (-1) + 1).toNat := by simp [usesS]
theorem usesS_get (l : List S45) (op most : Int) (j : Nat) : (usesS l op most)[j]? = if j < (topS op most l (-1) + 1).toNat then some (anyN l op (j : Int)) else none := by
  unfold usesS
  by_cases h : j < (topS op most l (-1) + 1).toNat
  · rw [if_pos h]; simp [h]
  · rw [if_neg h]; simp; omega
def putS (l : List Bool) (n most : Int) : List Bool := if n < 0 ∨ most ≤ n then l else (l ++ List.replicate (n.toNat + 1 - l.length) false).set n.toNat true
theorem put_l0 (n : Int) (h0 : 0 ≤ n) (hn : n < 1000) : ∀ (d : Nat) (l : List Bool), n.toNat + 1 - l.length = d → Ev (fun k => expr_Uses_1.l0 k l n) ((l ++ List.replicate d false).set n.toNat true)
  | 0, l, h => by
    refine Ev.step (f := fun _ => some ((l ++ List.replicate 0 false).set n.toNat true)) (fun k => ?_) (Ev.now _)
    simp only [expr_Uses_1.l0, List.replicate_zero, List.append_nil]
    rw [if_neg (by omega), if_pos h0, if_pos (by omega)]
  | d + 1, l, h => by
    have ih := put_l0 n h0 hn d (l ++ [false]) (by simp; omega)
    have e : (l ++ [false]) ++ List.replicate d false = l ++ List.replicate (d + 1) false := by
      rw [List.append_assoc]; rfl
    rw [e] at ih
    refine Ev.step (fun k => ?_) ih
    simp only [expr_Uses_1.l0]
    rw [if_pos (by omega), if_pos (by omega)]
theorem put_ev (l : List Bool) (n most : Int) (hm : most ≤ 1000) : Ev (fun k => expr_Uses_1.f k l n most) (putS l n most) := by
  have key : Ev (fun k => expr_Uses_1.j0 k l n (decide (n < 0 ∨ most ≤ n))) (putS l n most) := by
    unfold putS
    by_cases c : n < 0 ∨ most ≤ n
    · rw [if_pos c]
      refine Ev.step (f := fun _ => some l) (fun k => ?_) (Ev.now _)
      simp only [expr_Uses_1.j0, c, decide_true, if_true]
    · rw [if_neg c]
      refine Ev.step (f := fun k => expr_Uses_1.l0 k l n) (fun k => ?_) (put_l0 n (by omega) (by omega) _ l rfl)
      simp only [expr_Uses_1.j0, c, decide_false, Bool.false_eq_true, if_false]
  refine Ev.congr (fun k => ?_) key
  simp only [expr_Uses_1.f, ge_iff_le]
  by_cases c : n < 0
  · rw [if_pos c]; simp [c]
  · rw [if_neg c]; simp [c]
theorem anyN_snoc (l : List S45) (i : S45) (op n : Int) : anyN (l ++ [i]) op n = (anyN l op n || (i.f0 == op && i.f1 == n)) := by simp [anyN]
theorem uses_skip (l : List S45) (i : S45) (op most : Int) (h : i.f0 ≠ op) : usesS (l ++ [i]) op most = usesS l op most := by
  unfold usesS
  have e : topS op most (l ++ [i]) (-1) = topS op most l (-1) := by rw [topS_append, topS, topS, if_neg (fun c => h c.1)]
  rw [e]
  refine List.map_congr_left fun n _ => ?_
  have : (i.f0 == op) = false := by simpa using h
  rw [anyN_snoc, this, Bool.false_and, Bool.or_false]
theorem uses_put (l : List S45) (i : S45) (op most : Int) (hm : 0 ≤ most) (h : i.f0 = op) : usesS (l ++ [i]) op most = putS (usesS l op most) i.f1 most := by
  have ht := topS_lt op most hm l (-1) (by omega)
  have hg := topS_ge op most l (-1)
  unfold putS
  by_cases c : i.f1 < 0 ∨ most ≤ i.f1
  · rw [if_pos c]
    unfold usesS
    have e : topS op most (l ++ [i]) (-1) = topS op most l (-1) := by rw [topS_append, topS, topS, if_neg (by omega)]
    rw [e]
    refine List.map_congr_left fun n hn => ?_
    have hn' := List.mem_range.1 hn
    have : (i.f1 == (n : Int)) = false := by simp; omega
    rw [anyN_snoc, this, Bool.and_false, Bool.or_false]
  · rw [if_neg c]
    have e : topS op most (l ++ [i]) (-1) = mx (topS op most l (-1)) i.f1 := by rw [topS_append, topS, topS, if_pos (by omega)]
    refine List.ext_getElem? fun j => ?_
    rw [usesS_get, e, List.getElem?_set]
    have hlen := usesS_len l op most
    have hle := le_mx (topS op most l (-1)) i.f1
    by_cases hj : i.f1.toNat = j
    · subst hj
      rw [if_pos rfl, if_pos (by omega), if_pos (by simp only [List.length_append, List.length_replicate]; omega), anyN_snoc]
      have : (i.f1 == ((i.f1.toNat : Nat) : Int)) = true := by simp; omega
      rw [this, h]; simp
    · rw [if_neg hj]
      have hne : (i.f1 == (j : Int)) = false := by simp; omega
      have ha : anyN (l ++ [i]) op (j : Int) = anyN l op (j : Int) := by rw [anyN_snoc, hne, Bool.and_false, Bool.or_false]
      rw [ha]
      by_cases hj2 : j < (usesS l op most).length
      · rw [List.getElem?_append_left hj2, usesS_get, if_pos (by omega), if_pos (by omega)]
      · rw [List.getElem?_append_right (by omega), List.getElem?_replicate]
        by_cases hj3 : j < (mx (topS op most l (-1)) i.f1 + 1).toNat
        · rcases mx_cases (topS op most l (-1)) i.f1 with e' | e'
          · omega
          · rw [if_pos hj3, if_pos (by omega)]
            congr 1
            rw [← Bool.not_eq_true]
            intro hany
            have := topS_mem op most l (-1) (j : Int) hany (by omega) (by omega)
            omega
        · rw [if_neg hj3, if_neg (by omega)]
theorem uses_l0 (l : List S45) (hl : (l.length : Int) < 9223372036854775807) : ∀ (rest pre : List S45), l = pre ++ rest →
    Ev (fun k => expr_Uses.l0 k (usesS pre 2 6) (usesS pre 3 4) l (l.length : Int) (pre.length : Int)) (usesS l 2 6, usesS l 3 4)
  | [], pre, h => by
    have hlen : pre.length = l.length := by rw [h, List.append_nil]
    have e : l = pre := by rw [h, List.append_nil]
    refine Ev.step (f := fun _ => some (usesS l 2 6, usesS l 3 4)) (fun k => ?_) (Ev.now _)
    simp only [expr_Uses.l0]
    rw [if_neg (by omega), e]
  | i :: rest, pre, h => by
    have hlen : l.length = pre.length + (rest.length + 1) := by rw [h, List.length_append, List.length_cons]
    have hrd := rd_at h
    have e3 : (((pre ++ [i]).length : Nat) : Int) = (pre.length : Int) + 1 := by simp
    have e2 : wrap64 ((pre.length : Int) + 1) = (pre.length : Int) + 1 := w64 (by omega) (by omega)
    have ih := uses_l0 l hl rest (pre ++ [i]) (by rw [h]; simp)
    rw [e3] at ih
    by_cases c2 : i.f0 = 2
    · rw [uses_put pre i 2 6 (by omega) c2, uses_skip pre i 3 4 (by omega)] at ih
      refine Ev.step (f := fun k => (expr_Uses_1.f k (usesS pre 2 6) i.f1 6).bind fun t => expr_Uses.l0 k t (usesS pre 3 4) l (l.length : Int) (wrap64 ((pre.length : Int) + 1))) (fun k => ?_) ?_
      · simp only [expr_Uses.l0]
        rw [if_pos (by omega), if_pos (by omega), if_pos (by omega), hrd, if_pos c2]
      · refine Ev.bind (put_ev _ _ 6 (by omega)) ?_
        rw [e2]; exact ih
    · by_cases c3 : i.f0 = 3
      · rw [uses_put pre i 3 4 (by omega) c3, uses_skip pre i 2 6 (by omega)] at ih
        refine Ev.step (f := fun k => (expr_Uses_1.f k (usesS pre 3 4) i.f1 4).bind fun t => expr_Uses.l0 k (usesS pre 2 6) t l (l.length : Int) (wrap64 ((pre.length : Int) + 1))) (fun k => ?_) ?_
        · simp only [expr_Uses.l0]
          rw [if_pos (by omega), if_pos (by omega), if_pos (by omega), hrd, if_neg c2, if_pos c3]
        · refine Ev.bind (put_ev _ _ 4 (by omega)) ?_
          rw [e2]; exact ih
      · rw [uses_skip pre i 2 6 c2, uses_skip pre i 3 4 c3] at ih
        refine Ev.step (fun k => ?_) ih
        simp only [expr_Uses.l0]
        rw [if_pos (by omega), if_pos (by omega), if_pos (by omega), hrd, if_neg c2, if_neg c3, e2]
theorem uses_ev (l : List S45) (hl : (l.length : Int) < 9223372036854775807) : Ev (fun k => expr_Uses.f k l) (usesS l 2 6, usesS l 3 4) := by
  simp only [expr_Uses.f]
  exact uses_l0 l hl l [] rfl
end Go.Proofs.Ythhnecbfcpmpbaa.Expr
