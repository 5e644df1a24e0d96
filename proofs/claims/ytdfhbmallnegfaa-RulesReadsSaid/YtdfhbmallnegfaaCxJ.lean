/-
  A table without one of its rules: the plain law.
-/
import Derived.Test.YtdfhbmallnegfaaCxG
namespace Go.Vi.CYtdfhbmallnegfaa
open Go.Vi Go.Proofs Go.Proofs.Ytdfhbmallnegfaa
set_option linter.unusedVariables false
set_option maxHeartbeats 8000000
set_option linter.unusedSimpArgs false

/-- a table without its n-th rule -/
def less (t : Tb) (n : Nat) : Tb := ⟨t.states, t.vars, t.start, some (t.rules.list.take n ++ t.rules.list.drop (n + 1))⟩

section
variable {t : Tb} {n : Nat}
theorem less_rules : (less t n).rules.list = t.rules.list.take n ++ t.rules.list.drop (n + 1) := rfl
theorem less_at (hn : n < t.rules.list.length) (i : Nat) : (less t n).rules.list[i]? = t.rules.list[if i < n then i else i + 1]? := by
  rw [less_rules]
  by_cases h : i < n
  · rw [if_pos h, List.getElem?_append_left (by rw [List.length_take]; omega), List.getElem?_take_of_lt h]
  · rw [if_neg h, List.getElem?_append_right (by rw [List.length_take]; omega), List.length_take, List.getElem?_drop]
    congr 1
    omega
theorem less_len (hn : n < t.rules.list.length) : (less t n).rules.list.length = t.rules.list.length - 1 := by
  rw [less_rules, List.length_append, List.length_take, List.length_drop]; omega
theorem less_ok (ht : t.ok) : (less t n).ok := by
  obtain ⟨h1, h2, h3, h4, h5⟩ := ht
  refine ⟨h1, h2, h3, ?_, fun y hy => h5 y ?_⟩
  · unfold Sl.ok at h4 ⊢
    rw [less_rules, List.length_append, List.length_take, List.length_drop]; omega
  · rw [less_rules] at hy
    rcases List.mem_append.1 hy with h | h
    · exact List.mem_of_mem_take h
    · exact List.mem_of_mem_drop h

theorem find_ge {l : List Rl} {name : ByteArray} {k : Nat} (h : ∀ j, j < k → ∀ r, l[j]? = some r → r.name ≠ name) (hk : ∃ r, l[k]? = some r ∧ r.name = name) : find' l name = k := by
  obtain ⟨r, hr, hn⟩ := hk
  have hl : k < l.length := by
    rcases Nat.lt_or_ge k l.length with h | h
    · exact h
    · rw [List.getElem?_eq_none h] at hr; cases hr
  unfold find'
  rw [scan_found (k := k) (b := ()) (fun j hj => by
    unfold findP
    cases hj' : l[j]? with
    | none => rfl
    | some r => simp only; rw [if_neg (h j hj r hj')]) (by simp only [findP, hr]; rw [if_pos hn]) hl]
theorem find_lt {l : List Rl} {name : ByteArray} {k : Nat} (h : ¬ find' l name < k) (hk : ∃ r, l[k]? = some r ∧ r.name = name) : ∀ j, j < k → ∀ r, l[j]? = some r → r.name ≠ name := by
  intro j hj r hr e
  have hl : j < l.length := by
    rcases Nat.lt_or_ge j l.length with h | h
    · exact h
    · rw [List.getElem?_eq_none h] at hr; cases hr
  -- the first one
  have : ∃ m, m ≤ j ∧ (∀ i, i < m → ∀ r, l[i]? = some r → r.name ≠ name) ∧ ∃ r, l[m]? = some r ∧ r.name = name := by
    clear h hj
    induction j using Nat.strongRecOn generalizing r with
    | ind j ih =>
      by_cases hex : ∃ i, i < j ∧ ∃ r, l[i]? = some r ∧ r.name = name
      · obtain ⟨i, hi, r', hr', e'⟩ := hex
        obtain ⟨m, hm, h1, h2⟩ := ih i hi r' hr' e' (by omega)
        exact ⟨m, by omega, h1, h2⟩
      · exact ⟨j, Nat.le_refl _, fun i hi r' hr' e' => hex ⟨i, hi, r', hr', e'⟩, r, hr, e⟩
  obtain ⟨m, hm, h1, h2⟩ := this
  rw [find_ge h1 h2] at h
  omega

theorem less_rule (hR : right' t = true) (hn : n < t.rules.list.length) {i : Nat} {r : Rl} (hr : (less t n).rules.list[i]? = some r) : rule' (less t n) i r = ⟨0, 0, 0, 0⟩ := by
  rw [less_at hn] at hr
  obtain ⟨p1, p2, p3, p4, p5, p6⟩ := right_parts hR hr
  have hf : ¬ find' (less t n).rules.list r.name < i := by
    have h1 := find_lt p2 ⟨r, hr, rfl⟩
    have : find' (less t n).rules.list r.name = i := by
      refine find_ge (fun j hj r' hr' => ?_) ⟨r, by rw [less_at hn]; exact hr, rfl⟩
      rw [less_at hn] at hr'
      refine h1 _ ?_ r' hr'
      split <;> split <;> omega
    omega
  unfold rule'
  show (if nameOk r.name = false then _ else _) = _
  rw [if_neg (by simp [p1]), if_neg hf, if_neg p3]
  have e1 : (less t n).states = t.states := rfl
  have e2 : (less t n).vars = t.vars := rfl
  rw [e1, e2, if_neg (by omega), if_neg (by omega), if_neg (by omega)]
theorem less_right (hR : right' t = true) (hn : n < t.rules.list.length) : right' (less t n) = true := by
  have h0 := (right_table hR).1
  have hs := right_states hR
  have ht : table' (less t n) = ⟨0, 0, 0, 0⟩ := by
    have hl := less_len hn
    unfold table' at h0 ⊢
    have e1 : (less t n).states = t.states := rfl
    have e2 : (less t n).vars = t.vars := rfl
    have e3 : (less t n).start = t.start := rfl
    rw [e1, e2, e3]
    split at h0
    · cases h0
    · rename_i a
      rw [if_neg a]
      split at h0
      · rename_i b; exact absurd (congrArg Flt.e h0) b
      · rename_i b
        rw [if_neg b]
        split at h0
        · rename_i c; exact absurd (congrArg Flt.e h0) c
        · rename_i c
          rw [if_neg c]
          split at h0
          · cases h0
          · rename_i d
            rw [if_neg d]
            split at h0
            · cases h0
            · rename_i e
              rw [if_neg (by omega)]
  have hb : scan (ruleBad (less t n)) (less t n).rules.list.length = none := by
    refine scan_none fun i hi => ?_
    unfold ruleBad
    rw [List.getElem?_eq_getElem hi]
    simp only
    rw [less_rule hR hn (List.getElem?_eq_getElem hi)]
    rfl
  unfold right' check'
  rw [ht, hb]
  rfl
theorem less_rch (hn : n < t.rules.list.length) {a : Int} (h : Rch (less t n) a) : Rch t a := by
  induction h with
  | zero => exact .zero
  | step h hr hf ih =>
    rename_i a i r
    have hr' := hr
    rw [less_at hn] at hr'
    refine .step ih hr' ?_
    unfold for' at hf ⊢
    rw [Bool.and_eq_true] at hf ⊢
    have h1 := of_decide_eq_true hf.1
    have hl : (if i < n then i else i + 1) < t.rules.list.length := by
      rcases Nat.lt_or_ge (if i < n then i else i + 1) t.rules.list.length with h | h
      · exact h
      · rw [List.getElem?_eq_none h] at hr'; cases hr'
    refine ⟨decide_eq_true ⟨by omega, by omega, h1.2.2.1, h1.2.2.2⟩, ?_⟩
    have h2 := hf.2
    rw [Int.toNat_natCast, hr] at h2
    rw [Int.toNat_natCast, hr']
    exact h2
theorem less_reach (hn : n < t.rules.list.length) {i : Nat} (h : (reach' (less t n))[i]? = some true) : (reach' t)[i]? = some true := by
  unfold reach' at h ⊢
  rw [List.getElem?_map] at h ⊢
  have e : (less t n).states = t.states := rfl
  rw [e] at h
  cases hi : (List.range t.states.list.length)[i]? with
  | none => rw [hi] at h; simp at h
  | some j =>
    rw [hi] at h
    simp only [Option.map_some, Option.some.injEq] at h ⊢
    exact @decide_eq_true _ (Classical.propDecidable _) (less_rch hn (@of_decide_eq_true _ (Classical.propDecidable _) h))
theorem reach_len {t : Tb} : (reach' t).length = t.states.list.length := by unfold reach'; simp
end
end Go.Vi.CYtdfhbmallnegfaa
