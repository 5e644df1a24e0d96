/- Plain laws on expressions: what an expression comes to hangs on what it names alone. -/
import Derived.Test.YthhnecbfcpmpbaaExprC
import Derived.Test.YthhnecbfcpmpbaaExprD
namespace Go.Proofs.Ythhnecbfcpmpbaa.Expr
open Go.RowKit Go.Proofs.Ythhnecbfcpmpbaa.PA Go.Proofs.YthhnecbfcpmpbaaW.PrintWords Go.Proofs.YthhnecbfcpmpbaaW.PrintLast Go.Proofs.YthhnecbfcpmpbaaW.PrintMore
set_option linter.unusedVariables false
set_option linter.unusedSimpArgs false
theorem evS_allV (l1 l2 : List Int) (v1 : AllV l1) (v2 : AllV l2) (vars args n : Int) : ∀ (rest : List S45) (at_ row : Int) (st st' : List Int), (chk vars args n rest at_ row).2 = 0 → AllV st → evS l1 l2 rest st = some st' → AllV st'
  | [], _, _, st, st', _, hv, h => by
    simp only [evS, Option.some.injEq] at h
    rw [← h]; exact hv
  | i :: rest, at_, row, st, st', hc, hv, h => by
    obtain ⟨h1, h2, h3, h4⟩ := chk_cons hc
    rw [evS] at h
    by_cases c1 : i.f0 = 1
    · rw [if_pos c1] at h
      exact evS_allV l1 l2 v1 v2 vars args n rest _ _ _ _ h4 (allV_snoc hv (named_1 (by rw [c1] at h2; exact h2))) h
    · rw [if_neg c1] at h
      by_cases c2 : i.f0 = 2
      · rw [if_pos c2] at h
        exact evS_allV l1 l2 v1 v2 vars args n rest _ _ _ _ h4 (allV_snoc hv (rd_val v1 _)) h
      · rw [if_neg c2] at h
        by_cases c3 : i.f0 = 3
        · rw [if_pos c3] at h
          exact evS_allV l1 l2 v1 v2 vars args n rest _ _ _ _ h4 (allV_snoc hv (rd_val v2 _)) h
        · rw [if_neg c3] at h
          cases hm : madeS i.f0 (st.drop (st.length - (takesS i.f0).toNat)) with
          | none => rw [hm] at h; cases h
          | some m =>
            rw [hm, Option.bind_some] at h
            exact evS_allV l1 l2 v1 v2 vars args n rest _ _ _ _ h4 (allV_snoc (allV_take hv _) (madeS_val (rd_val (allV_drop hv _)) hm)) h
theorem evalS_zero {l : List S45} {l1 l2 : List Int} (h : (evalS l l1 l2).2 ≠ 0) : (evalS l l1 l2).1 = 0 := by
  unfold evalS at h ⊢
  by_cases c : (checkS l l1.length l2.length).2 = 0
  · rw [if_pos c] at h ⊢
    by_cases a1 : l1.all valueS = true
    · rw [if_pos a1] at h ⊢
      by_cases a2 : l2.all valueS = true
      · rw [if_pos a2] at h ⊢
        cases ho : evS l1 l2 l [] with
        | none => rfl
        | some st => rw [ho] at h; exact absurd rfl h
      · rw [if_neg a2]
    · rw [if_neg a1]
  · rw [if_neg c]
/-- Where it comes to something. -/
theorem evalS_ok {l : List S45} {l1 l2 : List Int} (h : (evalS l l1 l2).2 = 0) : (checkS l l1.length l2.length).2 = 0 ∧ AllV l1 ∧ AllV l2 ∧ ∃ st, evS l1 l2 l [] = some st ∧ (evalS l l1 l2) = (rd st 0, 0) ∧ AllV st := by
  have h' := h
  unfold evalS at h
  by_cases c : (checkS l l1.length l2.length).2 = 0
  · rw [if_pos c] at h
    by_cases a1 : l1.all valueS = true
    · rw [if_pos a1] at h
      by_cases a2 : l2.all valueS = true
      · rw [if_pos a2] at h
        cases ho : evS l1 l2 l [] with
        | none => rw [ho] at h; exact absurd h (by simp [outS])
        | some st =>
          refine ⟨c, (allV_iff _).1 a1, (allV_iff _).1 a2, st, rfl, ?_, ?_⟩
          · unfold evalS; rw [if_pos c, if_pos a1, if_pos a2, ho]; rfl
          · unfold checkS at c
            by_cases g1 : (l1.length : Int) < 0 ∨ (l2.length : Int) < 0
            · rw [if_pos g1] at c; exact absurd c (by simp)
            · rw [if_neg g1] at c
              by_cases g2 : (l.length : Int) > 31
              · rw [if_pos g2] at c; exact absurd c (by simp)
              · rw [if_neg g2] at c
                exact evS_allV l1 l2 ((allV_iff _).1 a1) ((allV_iff _).1 a2) _ _ _ l 0 0 [] st c (fun x hx => by cases hx) ho
      · rw [if_neg a2] at h; exact absurd h (by simp)
    · rw [if_neg a1] at h; exact absurd h (by simp)
  · rw [if_neg c] at h; exact absurd h c
theorem evS_congr (l1 l2 m1 m2 : List Int) : ∀ (rest : List S45) (st : List Int), (∀ i ∈ rest, i.f0 = 2 → rd m1 i.f1 = rd l1 i.f1) → (∀ i ∈ rest, i.f0 = 3 → rd m2 i.f1 = rd l2 i.f1) → evS m1 m2 rest st = evS l1 l2 rest st
  | [], st, _, _ => rfl
  | i :: rest, st, h1, h2 => by
    have ih := fun s => evS_congr l1 l2 m1 m2 rest s (fun x hx => h1 x (by simp [hx])) (fun x hx => h2 x (by simp [hx]))
    rw [evS, evS]
    by_cases c1 : i.f0 = 1
    · rw [if_pos c1, if_pos c1]; exact ih _
    · rw [if_neg c1, if_neg c1]
      by_cases c2 : i.f0 = 2
      · rw [if_pos c2, if_pos c2, h1 i (by simp) c2]; exact ih _
      · rw [if_neg c2, if_neg c2]
        by_cases c3 : i.f0 = 3
        · rw [if_pos c3, if_pos c3, h2 i (by simp) c3]; exact ih _
        · rw [if_neg c3, if_neg c3]
          cases madeS i.f0 (st.drop (st.length - (takesS i.f0).toNat)) with
          | none => rfl
          | some m => exact ih _
/-- What is not named is another value. -/
def modC (u : List Bool) (lim j : Nat) : Bool := decide (j < lim) && !(u.getD j false)
def modR (u : List Bool) (lim : Nat) (other : Int) : Nat → List Int → List Int
  | _, [] => []
  | j, v :: r => (if modC u lim j = true then other else v) :: modR u lim other (j + 1) r
theorem modR_len (u : List Bool) (lim : Nat) (other : Int) : ∀ (l : List Int) (j : Nat), (modR u lim other j l).length = l.length
  | [], _ => rfl
  | v :: r, j => by rw [modR, List.length_cons, List.length_cons, modR_len]
theorem modR_get (u : List Bool) (lim : Nat) (other : Int) : ∀ (l : List Int) (j n : Nat), (modR u lim other j l)[n]? = (l[n]?).map fun v => if modC u lim (j + n) = true then other else v
  | [], _, _ => by simp [modR]
  | v :: r, j, 0 => by simp [modR]
  | v :: r, j, n + 1 => by
    rw [modR, List.getElem?_cons_succ, List.getElem?_cons_succ, modR_get u lim other r (j + 1) n, show j + 1 + n = j + (n + 1) by omega]
theorem modR_allV {u : List Bool} {lim : Nat} {other : Int} (ho : valueS other = true) : ∀ {l : List Int} {j : Nat}, AllV l → AllV (modR u lim other j l)
  | [], _, h => h
  | v :: r, j, h => by
    intro x hx
    rw [modR] at hx
    rcases List.mem_cons.1 hx with rfl | hx
    · split
      · exact ho
      · exact h v (by simp)
    · exact modR_allV ho (fun y hy => h y (by simp [hy])) x hx
theorem rd_modR {u : List Bool} {lim : Nat} {other : Int} {l : List Int} {n : Int} (h : modC u lim n.toNat = false) : rd (modR u lim other 0 l) n = rd l n := by
  unfold rd
  rw [List.getD_eq_getElem?_getD, List.getD_eq_getElem?_getD, modR_get, Nat.zero_add, h]
  cases l[n.toNat]? <;> rfl
theorem named_used {l : List S45} {op : Int} {lim : Nat} {i : S45} (hi : i ∈ l) (h0 : i.f0 = op) (h1 : 0 ≤ i.f1) : modC (usesS l op lim) lim i.f1.toNat = false := by
  unfold modC
  by_cases c : i.f1.toNat < lim
  · have hany : anyN l op i.f1 = true := by
      unfold anyN
      rw [List.any_eq_true]
      exact ⟨i, hi, by simp [h0]⟩
    have ht := topS_mem op lim l (-1) i.f1 hany h1 (by omega)
    have hg : (usesS l op lim)[i.f1.toNat]? = some true := by
      rw [usesS_get, if_pos (by omega), show ((i.f1.toNat : Nat) : Int) = i.f1 by omega, hany]
    rw [List.getD_eq_getElem?_getD, hg]
    simp
  · rw [decide_eq_false c]; rfl
end Go.Proofs.Ythhnecbfcpmpbaa.Expr
