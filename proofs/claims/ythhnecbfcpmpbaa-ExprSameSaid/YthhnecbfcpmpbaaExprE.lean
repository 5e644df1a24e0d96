/- Plain laws on expressions: what is folded: shorter, the same, and folded once more it stays. -/
import Derived.Test.YthhnecbfcpmpbaaExprC
import Derived.Test.YthhnecbfcpmpbaaPAx6
import Derived.Test.YthhnecbfcpmpbaaPAx9
namespace Go.Proofs.Ythhnecbfcpmpbaa.Expr
open Go.RowKit Go.Proofs.Ythhnecbfcpmpbaa.PA Go.Proofs.YthhnecbfcpmpbaaW.PrintWords Go.Proofs.YthhnecbfcpmpbaaW.PrintLast Go.Proofs.YthhnecbfcpmpbaaW.PrintMore
set_option linter.unusedVariables false
set_option linter.unusedSimpArgs false

/-! ### the last instructions' constants -/
def constsS (l : List S45) (t : Nat) : Option (List Int) := if l.length < t then none else if (l.drop (l.length - t)).all (fun i => i.f0 == 1) = true then some ((l.drop (l.length - t)).map fun i => i.f1) else none
def told (o : Option (List Int)) : List Int × Bool := match o with | some v => (v, true) | none => ([], false)
theorem consts_l0 (l : List S45) (hl : (l.length : Int) ≤ 1000) : ∀ (rest pre : List S45), l = pre ++ rest → pre.all (fun i => i.f0 == 1) = true →
    Ev (fun k => expr_consts.l0 k (pre.map fun i => i.f1) l (l.length : Int) (pre.length : Int)) (if l.all (fun i => i.f0 == 1) = true then (l.map fun i => i.f1, true) else ([], false))
  | [], pre, h, hp => by
    have hlen : pre.length = l.length := by rw [h, List.append_nil]
    have e : l = pre := by rw [h, List.append_nil]
    rw [if_pos (by rw [e]; exact hp)]
    refine Ev.step (f := fun _ => some (l.map fun i => i.f1, true)) (fun k => ?_) (Ev.now _)
    simp only [expr_consts.l0]
    rw [if_neg (by omega), e]
  | i :: rest, pre, h, hp => by
    have hlen : l.length = pre.length + (rest.length + 1) := by rw [h, List.length_append, List.length_cons]
    have hrd := rd_at h
    have e3 : (((pre ++ [i]).length : Nat) : Int) = (pre.length : Int) + 1 := by simp
    have e2 : wrap64 ((pre.length : Int) + 1) = (pre.length : Int) + 1 := w64 (by omega) (by omega)
    by_cases c : i.f0 = 1
    · have ih := consts_l0 l hl rest (pre ++ [i]) (by rw [h]; simp) (by rw [List.all_append, hp]; simp [c])
      rw [e3, List.map_append] at ih
      refine Ev.step (fun k => ?_) ih
      simp only [expr_consts.l0]
      rw [if_pos (by omega), if_pos (by omega), if_pos (by omega), hrd, if_pos c, if_pos (by rw [List.length_map]; omega), e2]
      rfl
    · have hn : ¬ l.all (fun i => i.f0 == 1) = true := by rw [h]; simp [c]
      rw [if_neg hn]
      refine Ev.step (f := fun _ => some ([], false)) (fun k => ?_) (Ev.now _)
      simp only [expr_consts.l0]
      rw [if_pos (by omega), if_pos (by omega), if_pos (by omega), hrd, if_neg c]
theorem consts_ev (l : List S45) (hl : (l.length : Int) ≤ 1000) (t : Int) (h0 : 0 ≤ t) : Ev (fun k => expr_consts.f k l t) (told (constsS l t.toNat)) := by
  simp only [expr_consts.f, constsS]
  by_cases c : (l.length : Int) < t
  · rw [if_pos (by omega)]
    simp only [if_pos c, told]
    exact Ev.now _
  · have hw : wrap64 ((l.length : Int) - t) = (l.length : Int) - t := w64 (by omega) (by omega)
    have hw2 : ((l.length : Int) - t).toNat = l.length - t.toNat := by omega
    rw [if_neg (by omega)]
    simp only [if_neg c, hw, hw2, Option.bind_some]
    have e : told (if (l.drop (l.length - t.toNat)).all (fun i => i.f0 == 1) = true then some ((l.drop (l.length - t.toNat)).map fun i => i.f1) else none) = (if (l.drop (l.length - t.toNat)).all (fun i => i.f0 == 1) = true then ((l.drop (l.length - t.toNat)).map fun i => i.f1, true) else ([], false)) := by split <;> rfl
    rw [e]
    refine Ev.congr (fun k => ?_) (consts_l0 (l.drop (l.length - t.toNat)) (by rw [List.length_drop]; omega) _ [] rfl rfl)
    rw [if_pos (by omega), if_pos (by omega)]
    rfl

/-! ### a step of folding -/
def foldStep (out : List S45) (i : S45) : List S45 :=
  if 0 < takesS i.f0 then
    match (constsS out (takesS i.f0).toNat).bind (madeS i.f0) with
    | some n => out.take (out.length - (takesS i.f0).toNat) ++ [⟨1, n⟩]
    | none => out ++ [i]
  else out ++ [i]
def maxI : Int := 9223372036854775807
def Right (i : S45) : Prop := 0 ≤ takesS i.f0 ∧ namedS i.f0 i.f1 maxI maxI = true
def ConstV (l : List S45) : Prop := ∀ x ∈ l, x.f0 = 1 → valueS x.f1 = true
theorem consts_some {out : List S45} {t : Nat} {v : List Int} (h : constsS out t = some v) : t ≤ out.length ∧ (∀ x ∈ out.drop (out.length - t), x.f0 = 1) ∧ v = (out.drop (out.length - t)).map fun i => i.f1 := by
  unfold constsS at h
  by_cases c : out.length < t
  · rw [if_pos c] at h; cases h
  · rw [if_neg c] at h
    by_cases c2 : (out.drop (out.length - t)).all (fun i => i.f0 == 1) = true
    · rw [if_pos c2] at h
      injection h with h
      exact ⟨by omega, fun x hx => by simpa using List.all_eq_true.1 c2 x hx, h.symm⟩
    · rw [if_neg c2] at h; cases h
theorem consts_allV {out : List S45} {t : Nat} {v : List Int} (h : constsS out t = some v) (hv : ConstV out) : AllV v ∧ v.length = t := by
  obtain ⟨h1, h2, rfl⟩ := consts_some h
  refine ⟨fun x hx => ?_, by rw [List.length_map, List.length_drop]; omega⟩
  obtain ⟨i, hi, rfl⟩ := List.mem_map.1 hx
  exact hv i (List.mem_of_mem_drop hi) (h2 i hi)
/-- The two ways of a step. -/
theorem foldStep_cases (out : List S45) (i : S45) : foldStep out i = out ++ [i] ∨
    ∃ v n, 0 < takesS i.f0 ∧ constsS out (takesS i.f0).toNat = some v ∧ madeS i.f0 v = some n ∧ foldStep out i = out.take (out.length - (takesS i.f0).toNat) ++ [⟨1, n⟩] := by
  unfold foldStep
  by_cases c : 0 < takesS i.f0
  · rw [if_pos c]
    cases h : constsS out (takesS i.f0).toNat with
    | none => exact .inl (by simp)
    | some v =>
      cases h2 : madeS i.f0 v with
      | none => exact .inl (by simp [h2])
      | some n => exact .inr ⟨v, n, c, rfl, h2, by simp [h2]⟩
  · rw [if_neg c]; exact .inl rfl
theorem foldStep_len (out : List S45) (i : S45) : (foldStep out i).length ≤ out.length + 1 := by
  rcases foldStep_cases out i with e | ⟨v, n, _, _, _, e⟩
  · rw [e]; simp
  · rw [e, List.length_append, List.length_take, List.length_singleton]; omega
theorem foldStep_constV {out : List S45} {i : S45} (hv : ConstV out) (hi : i.f0 = 1 → valueS i.f1 = true) : ConstV (foldStep out i) := by
  rcases foldStep_cases out i with e | ⟨v, n, _, hc, hm, e⟩
  · rw [e]
    intro x hx h1
    rcases List.mem_append.1 hx with hx | hx
    · exact hv x hx h1
    · rw [List.mem_singleton.1 hx] at h1 ⊢; exact hi h1
  · rw [e]
    intro x hx h1
    rcases List.mem_append.1 hx with hx | hx
    · exact hv x (List.mem_of_mem_take hx) h1
    · rw [List.mem_singleton.1 hx]
      exact madeS_val (rd_val (consts_allV hc hv).1) hm
theorem right_val {i : S45} (h : Right i) (h1 : i.f0 = 1) : valueS i.f1 = true := by
  have := h.2
  rw [h1] at this
  exact named_1 this
theorem fold_l0 (l : List S45) (hl : (l.length : Int) ≤ 31) (hr : ∀ i ∈ l, Right i) : ∀ (rest pre out : List S45), l = pre ++ rest → out.length ≤ pre.length → ConstV out →
    Ev (fun k => expr_Fold.l0 k out l (l.length : Int) (pre.length : Int)) (rest.foldl foldStep out)
  | [], pre, out, h, ho, hv => by
    have hlen : pre.length = l.length := by rw [h, List.append_nil]
    refine Ev.step (f := fun _ => some out) (fun k => ?_) (Ev.now _)
    simp only [expr_Fold.l0]
    rw [if_neg (by omega)]
  | i :: rest, pre, out, h, ho, hv => by
    have hlen : l.length = pre.length + (rest.length + 1) := by rw [h, List.length_append, List.length_cons]
    have hrd := rd_at h
    have e3 : (((pre ++ [i]).length : Nat) : Int) = (pre.length : Int) + 1 := by simp
    have e2 : wrap64 ((pre.length : Int) + 1) = (pre.length : Int) + 1 := w64 (by omega) (by omega)
    have hri := hr i (by rw [h]; simp)
    obtain ⟨o1, o16⟩ := takes_op hri.1
    have ih := fold_l0 l hl hr rest (pre ++ [i]) (foldStep out i) (by rw [h]; simp) (by have := foldStep_len out i; simp; omega) (foldStep_constV hv (right_val hri))
    rw [e3] at ih
    have hg := hri.1
    -- behind the test
    have j1 : Ev (fun k => expr_Fold.j1 k out (takesS i.f0) (told (constsS out (takesS i.f0).toNat)).1 l (l.length : Int) (pre.length : Int) (decide (0 < takesS i.f0) && (told (constsS out (takesS i.f0).toNat)).2) i.f0 i.f1) ((i :: rest).foldl foldStep out) := by
      rw [List.foldl_cons]
      have plain : foldStep out i = out ++ [i] → Ev (fun k => if out.length < 8796093022208 then expr_Fold.l0 k (out ++ [(⟨i.f0, i.f1⟩ : S45)]) l (l.length : Int) (wrap64 ((pre.length : Int) + 1)) else none) (rest.foldl foldStep (foldStep out i)) := by
        intro e
        rw [e] at ih ⊢
        refine Ev.congr (fun k => ?_) ih
        rw [if_pos (by omega), e2]
      by_cases c : 0 < takesS i.f0
      · cases hc : constsS out (takesS i.f0).toNat with
        | none =>
          have e : foldStep out i = out ++ [i] := by unfold foldStep; rw [if_pos c, hc]; rfl
          refine Ev.step (fun k => ?_) (plain e)
          simp only [expr_Fold.j1, told, Bool.and_false, Bool.false_eq_true, if_false]
        | some v =>
          obtain ⟨hav, hvl⟩ := consts_allV hc hv
          have hlt := (consts_some hc).1
          have o4 : 4 ≤ i.f0 := by
            refine Classical.byContradiction fun h4 => ?_
            rw [takes_low (op := i.f0) (by omega) (by omega)] at c
            omega
          obtain ⟨r, hr', hf⟩ := made_ev i.f0 v (rd_val hav) o4 o16 (by rw [hvl]; omega)
          refine Ev.step (f := fun k => (expr_made.f k i.f0 v).bind fun q => if q.2 = true then expr_Fold.l0 k (out.take (out.length - (takesS i.f0).toNat) ++ [(⟨1, q.1⟩ : S45)]) l (l.length : Int) (wrap64 ((pre.length : Int) + 1)) else if out.length < 8796093022208 then expr_Fold.l0 k (out ++ [(⟨i.f0, i.f1⟩ : S45)]) l (l.length : Int) (wrap64 ((pre.length : Int) + 1)) else none) (fun k => ?_) ?_
          · have hw : wrap64 ((out.length : Int) - takesS i.f0) = (out.length : Int) - takesS i.f0 := w64 (by omega) (by omega)
            have hw2 : ((out.length : Int) - takesS i.f0).toNat = out.length - (takesS i.f0).toNat := by omega
            simp only [expr_Fold.j1, told, decide_eq_true c, Bool.true_and, if_true]
            have g1 : 0 ≤ (out.length : Int) - takesS i.f0 := by omega
            have g2 : (out.length : Int) - takesS i.f0 ≤ (out.length : Int) := by omega
            have g3 : (out.take (out.length - (takesS i.f0).toNat)).length < 8796093022208 := by rw [List.length_take]; omega
            simp only [hw, hw2, if_pos g1, if_pos g2, Option.bind_some, if_pos g3]
          · refine Ev.bind hr' ?_
            cases hq : r.2 with
            | true =>
              have e : foldStep out i = out.take (out.length - (takesS i.f0).toNat) ++ [⟨1, r.1⟩] := by unfold foldStep; rw [if_pos c, hc]; simp [hf.1 hq]
              rw [e] at ih ⊢
              simp only [if_true, e2]
              exact ih
            | false =>
              have e : foldStep out i = out ++ [i] := by unfold foldStep; rw [if_pos c, hc]; simp [hf.2 hq]
              simp only [Bool.false_eq_true, if_false]
              exact plain e
      · have e : foldStep out i = out ++ [i] := by unfold foldStep; rw [if_neg c]
        refine Ev.step (fun k => ?_) (plain e)
        simp only [expr_Fold.j1, decide_eq_false c, Bool.false_and, Bool.false_eq_true, if_false]
    refine Ev.step (f := fun k => (expr_takes.f k i.f0).bind fun t => (expr_consts.f k out t).bind fun q => if t > 0 then expr_Fold.j1 k out t q.1 l (l.length : Int) (pre.length : Int) q.2 i.f0 i.f1 else expr_Fold.j1 k out t q.1 l (l.length : Int) (pre.length : Int) false i.f0 i.f1) (fun k => ?_) ?_
    · simp only [expr_Fold.l0]
      rw [if_pos (by omega), if_pos (by omega), if_pos (by omega), hrd]
    · refine Ev.bind (takes_ev i.f0) (Ev.bind (consts_ev out (by omega) _ hg) ?_)
      by_cases c : 0 < takesS i.f0
      · simp only [gt_iff_lt, if_pos c]
        rw [decide_eq_true c, Bool.true_and] at j1
        exact j1
      · simp only [gt_iff_lt, if_neg c]
        rw [decide_eq_false c, Bool.false_and] at j1
        exact j1
def foldS (l : List S45) : List S45 := if (checkS l maxI maxI).2 = 0 then l.foldl foldStep [] else l
theorem chk_right {vars args n : Int} : ∀ (l : List S45) (at_ row : Int), (chk vars args n l at_ row).2 = 0 → ∀ i ∈ l, 0 ≤ takesS i.f0 ∧ namedS i.f0 i.f1 vars args = true
  | [], _, _, _, i, hi => by cases hi
  | j :: rest, at_, row, h, i, hi => by
    obtain ⟨h1, h2, _, h4⟩ := chk_cons h
    rcases List.mem_cons.1 hi with rfl | hi
    · exact ⟨h1, h2⟩
    · exact chk_right rest _ _ h4 i hi
theorem check_ok {l : List S45} {vars args : Int} (h : (checkS l vars args).2 = 0) : (l.length : Int) ≤ 31 ∧ 0 ≤ vars ∧ 0 ≤ args ∧ (chk vars args l.length l 0 0).2 = 0 := by
  unfold checkS at h
  by_cases c : vars < 0 ∨ args < 0
  · rw [if_pos c] at h; exact absurd h (by simp)
  · rw [if_neg c] at h
    by_cases c2 : (l.length : Int) > 31
    · rw [if_pos c2] at h; exact absurd h (by simp)
    · rw [if_neg c2] at h; exact ⟨by omega, by omega, by omega, h⟩
theorem fold_ev (l : List S45) (hl : l.length < 8796093022208) : Ev (fun k => expr_Fold.f k l) (foldS l) := by
  simp only [expr_Fold.f, Option.bind_some, List.length_nil, List.nil_append, foldS]
  have e : Ev (fun k => (expr_Check.f k l 9223372036854775807 9223372036854775807).bind fun b => if b.2 = 0 then expr_Fold.l0 k [] l (l.length : Int) 0 else some l) (if (checkS l maxI maxI).2 = 0 then l.foldl foldStep [] else l) := by
    refine Ev.bind (check_ev l 9223372036854775807 9223372036854775807) ?_
    by_cases c : (checkS l maxI maxI).2 = 0
    · have c' : (checkS l 9223372036854775807 9223372036854775807).2 = 0 := c
      obtain ⟨h31, _, _, hc⟩ := check_ok c
      simp only [if_pos c, if_pos c']
      exact fold_l0 l h31 (fun i hi => chk_right l _ _ hc i hi) l [] [] rfl (Nat.le_refl _) (fun x hx => by cases hx)
    · have c' : ¬ (checkS l 9223372036854775807 9223372036854775807).2 = 0 := c
      simp only [if_neg c, if_neg c']
      exact Ev.now _
  refine Ev.congr (fun k => ?_) e
  rw [if_pos (by omega)]

/-! ### what stays the same -/
def rowS : List S45 → Int → Option Int
  | [], row => some row
  | i :: rest, row => if row < takesS i.f0 then none else rowS rest (row + (1 - takesS i.f0))
theorem rowS_append : ∀ (a b : List S45) (row : Int), rowS (a ++ b) row = (rowS a row).bind (rowS b)
  | [], b, row => rfl
  | i :: a, b, row => by
    rw [List.cons_append, rowS, rowS]
    split
    · rfl
    · exact rowS_append a b _
theorem rowS_consts : ∀ (l : List S45) (row : Int), 0 ≤ row → (∀ x ∈ l, x.f0 = 1) → rowS l row = some (row + l.length)
  | [], row, _, _ => by simp [rowS]
  | i :: l, row, h0, h => by
    have t0 : takesS i.f0 = 0 := takes_low (by have := h i (by simp); omega) (by have := h i (by simp); omega)
    rw [rowS, if_neg (by omega), rowS_consts l _ (by omega) (fun x hx => h x (by simp [hx])), List.length_cons]
    congr 1
    omega
theorem rowS_ge : ∀ (l : List S45) (row r : Int), 0 ≤ row → rowS l row = some r → 0 ≤ r
  | [], row, r, h0, h => by simp [rowS] at h; omega
  | i :: l, row, r, h0, h => by
    rw [rowS] at h
    split at h
    · cases h
    · exact rowS_ge l _ r (by omega) h
theorem evS_append (l1 l2 : List Int) : ∀ (a b : List S45) (st : List Int), evS l1 l2 (a ++ b) st = (evS l1 l2 a st).bind (evS l1 l2 b)
  | [], b, st => rfl
  | i :: a, b, st => by
    rw [List.cons_append, evS, evS]
    by_cases c1 : i.f0 = 1
    · rw [if_pos c1, if_pos c1]; exact evS_append l1 l2 a b _
    · rw [if_neg c1, if_neg c1]
      by_cases c2 : i.f0 = 2
      · rw [if_pos c2, if_pos c2]; exact evS_append l1 l2 a b _
      · rw [if_neg c2, if_neg c2]
        by_cases c3 : i.f0 = 3
        · rw [if_pos c3, if_pos c3]; exact evS_append l1 l2 a b _
        · rw [if_neg c3, if_neg c3]
          cases madeS i.f0 (st.drop (st.length - (takesS i.f0).toNat)) with
          | none => rfl
          | some n => exact evS_append l1 l2 a b _
theorem evS_consts (l1 l2 : List Int) : ∀ (l : List S45) (st : List Int), (∀ x ∈ l, x.f0 = 1) → evS l1 l2 l st = some (st ++ l.map fun i => i.f1)
  | [], st, _ => by simp [evS]
  | i :: l, st, h => by
    rw [evS, if_pos (h i (by simp)), evS_consts l1 l2 l _ (fun x hx => h x (by simp [hx]))]
    simp
theorem step_same {out : List S45} {i : S45} (l1 l2 : List Int) (ho : i.f0 ≤ 16) : (∀ row, 0 ≤ row → rowS (foldStep out i) row = rowS (out ++ [i]) row) ∧ ∀ st, evS l1 l2 (foldStep out i) st = evS l1 l2 (out ++ [i]) st := by
  rcases foldStep_cases out i with e | ⟨v, n, hp, hc, hm, e⟩
  · rw [e]; exact ⟨fun _ _ => rfl, fun _ => rfl⟩
  · obtain ⟨hle, hall, rfl⟩ := consts_some hc
    have o4 : 4 ≤ i.f0 := by
      refine Classical.byContradiction fun h4 => ?_
      have hp' := hp
      unfold takesS at hp'
      rw [takes_low (op := i.f0) (takes_op (by omega)).1 (by omega)] at hp
      omega
    have hsp : out = out.take (out.length - (takesS i.f0).toNat) ++ out.drop (out.length - (takesS i.f0).toNat) := (List.take_append_drop _ _).symm
    have hdl : ((out.drop (out.length - (takesS i.f0).toNat)).length : Int) = takesS i.f0 := by rw [List.length_drop]; omega
    rw [e]
    constructor
    · intro row h0
      have e1 : rowS (out ++ [i]) row = rowS (out.take (out.length - (takesS i.f0).toNat) ++ (out.drop (out.length - (takesS i.f0).toNat) ++ [i])) row := by rw [← List.append_assoc, ← hsp]
      rw [e1, rowS_append, rowS_append]
      cases h : rowS (out.take (out.length - (takesS i.f0).toNat)) row with
      | none => rfl
      | some r =>
        have hr := rowS_ge _ row r h0 h
        show rowS [⟨1, n⟩] r = rowS (out.drop (out.length - (takesS i.f0).toNat) ++ [i]) r
        rw [rowS_append, rowS_consts _ r hr hall, Option.bind_some, rowS, rowS, rowS, rowS, hdl, takes_low (op := 1) (by omega) (by omega), if_neg (by omega), if_neg (by omega)]
        congr 1
        omega
    · intro st
      have e1 : evS l1 l2 (out ++ [i]) st = evS l1 l2 (out.take (out.length - (takesS i.f0).toNat) ++ (out.drop (out.length - (takesS i.f0).toNat) ++ [i])) st := by rw [← List.append_assoc, ← hsp]
      rw [e1, evS_append, evS_append]
      cases h : evS l1 l2 (out.take (out.length - (takesS i.f0).toNat)) st with
      | none => rfl
      | some s =>
        show evS l1 l2 [⟨1, n⟩] s = evS l1 l2 (out.drop (out.length - (takesS i.f0).toNat) ++ [i]) s
        have eL : evS l1 l2 [⟨1, n⟩] s = some (s ++ [n]) := by rw [evS, if_pos rfl, evS]
        have eR : ∀ q, evS l1 l2 [i] q = (madeS i.f0 (q.drop (q.length - (takesS i.f0).toNat))).bind fun m => evS l1 l2 [] (q.take (q.length - (takesS i.f0).toNat) ++ [m]) := by
          intro q
          rw [evS, if_neg (by omega), if_neg (by omega), if_neg (by omega)]
        rw [evS_append, evS_consts l1 l2 _ s hall, Option.bind_some, eL, eR]
        have hl3 : (s ++ (out.drop (out.length - (takesS i.f0).toNat)).map fun i => i.f1).length - (takesS i.f0).toNat = s.length := by
          rw [List.length_append, List.length_map]; omega
        rw [hl3, List.drop_left, List.take_left, hm]
        rfl
theorem fold_same (l1 l2 : List Int) : ∀ (rest out : List S45), (∀ i ∈ rest, i.f0 ≤ 16) → (∀ row, 0 ≤ row → rowS (rest.foldl foldStep out) row = rowS (out ++ rest) row) ∧ ∀ st, evS l1 l2 (rest.foldl foldStep out) st = evS l1 l2 (out ++ rest) st
  | [], out, _ => by simp
  | i :: rest, out, h => by
    obtain ⟨a1, a2⟩ := fold_same l1 l2 rest (foldStep out i) (fun x hx => h x (by simp [hx]))
    obtain ⟨b1, b2⟩ := step_same (out := out) (i := i) l1 l2 (h i (by simp))
    rw [List.foldl_cons]
    constructor
    · intro row h0
      rw [a1 row h0, rowS_append, b1 row h0, ← rowS_append]
      simp
    · intro st
      rw [a2 st, evS_append, b2 st, ← evS_append]
      simp
def allN (vars args : Int) (l : List S45) : Bool := l.all fun i => namedS i.f0 i.f1 vars args
theorem named_op {f0 f1 v a v' a' : Int} (h4 : 4 ≤ f0) (h : namedS f0 f1 v a = true) : namedS f0 f1 v' a' = true := by
  unfold namedS at h ⊢
  rw [if_neg (by omega), if_neg (by omega), if_neg (by omega)] at h ⊢
  exact h
theorem named_const {n v a : Int} (h : valueS n = true) : namedS 1 n v a = true := by simpa [namedS] using h
theorem step_named {out : List S45} {i : S45} (vars args : Int) (hv : ConstV out) (hi : Right i) : allN vars args (foldStep out i) = allN vars args (out ++ [i]) := by
  rcases foldStep_cases out i with e | ⟨v, n, hp, hc, hm, e⟩
  · rw [e]
  · obtain ⟨hle, hall, _⟩ := consts_some hc
    have hn := madeS_val (rd_val (consts_allV hc hv).1) hm
    have o4 : 4 ≤ i.f0 := by
      refine Classical.byContradiction fun h4 => ?_
      rw [takes_low (op := i.f0) (takes_op hi.1).1 (by omega)] at hp
      omega
    have hsp : out = out.take (out.length - (takesS i.f0).toNat) ++ out.drop (out.length - (takesS i.f0).toNat) := (List.take_append_drop _ _).symm
    have hcs : (out.drop (out.length - (takesS i.f0).toNat)).all (fun i => namedS i.f0 i.f1 vars args) = true := by
      rw [List.all_eq_true]
      intro x hx
      rw [hall x hx]
      exact named_const (hv x (List.mem_of_mem_drop hx) (hall x hx))
    have e1 : allN vars args (out ++ [i]) = ((out.take (out.length - (takesS i.f0).toNat)).all (fun i => namedS i.f0 i.f1 vars args) && true && true) := by
      unfold allN
      have hni : namedS i.f0 i.f1 vars args = true := named_op o4 hi.2
      rw [List.all_append]
      have : out.all (fun i => namedS i.f0 i.f1 vars args) = ((out.take (out.length - (takesS i.f0).toNat)).all (fun i => namedS i.f0 i.f1 vars args) && true) := by
        conv => lhs; rw [hsp]
        rw [List.all_append, hcs]
      rw [this, List.all_cons, List.all_nil, hni]
      rfl
    rw [e, e1]
    unfold allN
    rw [List.all_append, List.all_cons, List.all_nil]
    have : namedS (1 : Int) n vars args = true := named_const hn
    simp [this]
theorem fold_named (vars args : Int) : ∀ (rest out : List S45), (∀ i ∈ rest, Right i) → ConstV out → allN vars args (rest.foldl foldStep out) = allN vars args (out ++ rest)
  | [], out, _, _ => by simp
  | i :: rest, out, h, hv => by
    have hi := h i (by simp)
    rw [List.foldl_cons, fold_named vars args rest (foldStep out i) (fun x hx => h x (by simp [hx])) (foldStep_constV hv (right_val hi))]
    have := step_named vars args hv hi
    unfold allN at this ⊢
    rw [List.all_append, this, ← List.all_append]
    simp
theorem chk_iff (vars args n : Int) : ∀ (l : List S45) (at_ row : Int), (∀ i ∈ l, 0 ≤ takesS i.f0) → rowS l row = some 1 → (chk vars args n l at_ row).2 = if allN vars args l = true then 0 else 3
  | [], at_, row, _, h => by
    simp only [rowS, Option.some.injEq] at h
    simp [chk, allN, h]
  | i :: l, at_, row, ht, h => by
    have h0 := ht i (by simp)
    rw [rowS] at h
    by_cases c : row < takesS i.f0
    · rw [if_pos c] at h; cases h
    · rw [if_neg c] at h
      have ih := chk_iff vars args n l (at_ + 1) _ (fun x hx => ht x (by simp [hx])) h
      rw [chk, if_neg (by omega)]
      by_cases c2 : namedS i.f0 i.f1 vars args = true
      · rw [if_pos c2, if_neg c, ih]
        simp [allN, c2]
      · rw [if_neg c2]
        simp [allN, c2]
theorem chk_row {vars args n : Int} : ∀ (l : List S45) (at_ row : Int), (chk vars args n l at_ row).2 = 0 → rowS l row = some 1
  | [], at_, row, h => by
    unfold chk at h
    by_cases c : row = 1
    · rw [c]; rfl
    · rw [if_neg c] at h; exact absurd h (by simp)
  | i :: l, at_, row, h => by
    obtain ⟨h1, h2, h3, h4⟩ := chk_cons h
    rw [rowS, if_neg (by omega)]
    exact chk_row l _ _ h4
theorem check_code {l : List S45} (h31 : (l.length : Int) ≤ 31) (ht : ∀ i ∈ l, 0 ≤ takesS i.f0) (hr : rowS l 0 = some 1) {vars args : Int} (h0 : 0 ≤ vars) (h1 : 0 ≤ args) : (checkS l vars args).2 = if allN vars args l = true then 0 else 3 := by
  unfold checkS
  rw [if_neg (by omega), if_neg (by omega)]
  exact chk_iff vars args _ l 0 0 ht hr
theorem foldl_len : ∀ (rest out : List S45), (rest.foldl foldStep out).length ≤ out.length + rest.length
  | [], out => by simp
  | i :: rest, out => by
    have := foldl_len rest (foldStep out i)
    have := foldStep_len out i
    rw [List.foldl_cons, List.length_cons]
    omega
theorem foldS_len (l : List S45) : (foldS l).length ≤ l.length := by
  unfold foldS
  split
  · have := foldl_len l []; simpa using this
  · exact Nat.le_refl _
theorem foldl_takes : ∀ (rest out : List S45), (∀ i ∈ rest, 0 ≤ takesS i.f0) → (∀ i ∈ out, 0 ≤ takesS i.f0) → ∀ i ∈ rest.foldl foldStep out, 0 ≤ takesS i.f0
  | [], out, _, ho => ho
  | j :: rest, out, hr, ho => by
    rw [List.foldl_cons]
    refine foldl_takes rest _ (fun x hx => hr x (by simp [hx])) ?_
    intro x hx
    rcases foldStep_cases out j with e | ⟨v, n, _, _, _, e⟩
    · rw [e] at hx
      rcases List.mem_append.1 hx with hx | hx
      · exact ho x hx
      · rw [List.mem_singleton.1 hx]; exact hr j (by simp)
    · rw [e] at hx
      rcases List.mem_append.1 hx with hx | hx
      · exact ho x (List.mem_of_mem_take hx)
      · rw [List.mem_singleton.1 hx]; show 0 ≤ takesS 1; decide
/-- What is folded comes to the same. -/
theorem eval_fold (l : List S45) (l1 l2 : List Int) : evalS (foldS l) l1 l2 = evalS l l1 l2 := by
  unfold foldS
  by_cases c : (checkS l maxI maxI).2 = 0
  · rw [if_pos c]
    obtain ⟨h31, _, _, hc⟩ := check_ok c
    have hr : ∀ i ∈ l, Right i := fun i hi => chk_right l _ _ hc i hi
    have ht : ∀ i ∈ l, 0 ≤ takesS i.f0 := fun i hi => (hr i hi).1
    have hrow := chk_row l 0 0 hc
    obtain ⟨s1, s2⟩ := fold_same l1 l2 l [] (fun i hi => (takes_op (ht i hi)).2)
    have hn := fold_named (l1.length : Int) (l2.length : Int) l [] hr (fun x hx => by cases hx)
    rw [List.nil_append] at hn
    have hlen := foldl_len l []
    rw [List.length_nil] at hlen
    have k1 := check_code (vars := (l1.length : Int)) (args := (l2.length : Int)) h31 ht hrow (by omega) (by omega)
    have k2 := check_code (l := l.foldl foldStep []) (vars := (l1.length : Int)) (args := (l2.length : Int)) (by omega) (foldl_takes l [] ht (fun x hx => by cases hx)) (by rw [s1 0 (by omega)]; exact hrow) (by omega) (by omega)
    have s2' := s2 []
    rw [List.nil_append] at s2'
    unfold evalS
    rw [k1, k2, hn, s2']
  · rw [if_neg c]
/-! ### folded once more it stays -/
def Norm (out : List S45) : Prop := ∀ p i s, out = p ++ i :: s → foldStep p i = p ++ [i]
theorem norm_take {out : List S45} (h : Norm out) (n : Nat) : Norm (out.take n) := by
  intro p i s e
  refine h p i (s ++ out.drop n) ?_
  rw [show p ++ i :: (s ++ out.drop n) = (p ++ i :: s) ++ out.drop n by simp, ← e, List.take_append_drop]
theorem norm_snoc {out : List S45} {j : S45} (h : Norm out) (hj : foldStep out j = out ++ [j]) : Norm (out ++ [j]) := by
  intro p i s e
  rcases List.eq_nil_or_concat s with rfl | ⟨s', x, rfl⟩
  · have := List.append_inj_left' e rfl
    have e2 := List.append_inj_right' e rfl
    simp only [List.cons.injEq, and_true] at e2
    rw [← this, ← e2]
    exact hj
  · have e' : out ++ [j] = (p ++ i :: s') ++ [x] := by rw [e]; simp
    exact h p i s' (List.append_inj_left' e' rfl)
theorem step_const (out : List S45) (n : Int) : foldStep out ⟨1, n⟩ = out ++ [⟨1, n⟩] := by
  unfold foldStep
  rw [if_neg (by show ¬ 0 < takesS 1; decide)]
theorem norm_step {out : List S45} (i : S45) (h : Norm out) : Norm (foldStep out i) := by
  rcases foldStep_cases out i with e | ⟨v, n, _, _, _, e⟩
  · rw [e]; exact norm_snoc h e
  · rw [e]; exact norm_snoc (norm_take h _) (step_const _ _)
theorem norm_foldl : ∀ (rest out : List S45), Norm out → Norm (rest.foldl foldStep out)
  | [], out, h => h
  | i :: rest, out, h => by rw [List.foldl_cons]; exact norm_foldl rest _ (norm_step i h)
theorem norm_fix : ∀ (s p : List S45), Norm (p ++ s) → s.foldl foldStep p = p ++ s
  | [], p, _ => by simp
  | i :: s, p, h => by
    rw [List.foldl_cons, h p i s rfl, norm_fix s (p ++ [i]) (by simpa using h)]
    simp
theorem fold_again (l : List S45) : foldS (foldS l) = foldS l := by
  by_cases c : (checkS l maxI maxI).2 = 0
  · have e : foldS l = l.foldl foldStep [] := if_pos c
    rw [e]
    unfold foldS
    split
    · have := norm_fix (l.foldl foldStep []) [] (by rw [List.nil_append]; exact norm_foldl l [] (fun p i s e => by simp at e))
      simpa using this
    · rfl
  · have e : foldS l = l := if_neg c
    rw [e, e]

/-! ### Same -/
theorem same_l0 (l : List S45) (hl : (l.length : Int) < 9223372036854775807) : ∀ (n i : Nat), i + n = l.length → Ev (fun k => surmiseref03_Same.l0 k l l (i : Int)) true
  | 0, i, h => by
    refine Ev.step (f := fun _ => some true) (fun k => ?_) (Ev.now _)
    simp only [surmiseref03_Same.l0]
    rw [if_neg (by omega)]
  | n + 1, i, h => by
    have ih := same_l0 l hl n (i + 1) (by omega)
    refine Ev.step (fun k => ?_) ih
    simp only [surmiseref03_Same.l0]
    rw [if_pos (by omega), if_pos (by omega), if_pos (by omega), if_neg (by simp), w64 (by omega) (by omega)]
    rfl
theorem same_ev (l : List S45) (hl : (l.length : Int) < 9223372036854775807) : Ev (fun k => surmiseref03_Same.f k l l) true := by
  simp only [surmiseref03_Same.f, if_true]
  exact same_l0 l hl l.length 0 (by omega)
end Go.Proofs.Ythhnecbfcpmpbaa.Expr
