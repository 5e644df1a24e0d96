/- Plain laws on tables: where a rule leads, what can be reached, and that the program's Reach tells just that, without rounds. -/
import Derived.Test.YtdfhbmallnegfaaRulesD
import Derived.Test.YtdfhbmallnegfaaPAx9
import Derived.Test.YtdfhbmallnegfaaPAx18
namespace Go.Proofs.Ytdfhbmallnegfaa.Rules
open Go.RowKit Go.Proofs.Ytdfhbmallnegfaa.PA Go.Proofs.YtdfhbmallnegfaaW.PrintWords Go.Proofs.YtdfhbmallnegfaaW.PrintLast Go.Proofs.YtdfhbmallnegfaaW.PrintMore Go.Proofs.Ytdfhbmallnegfaa.Expr
set_option linter.unusedVariables false
set_option linter.unusedSimpArgs false

/-! ### where a rule leads -/
def toP (l : List S60) (s : Int) : Nat → Int
  | 0 => s
  | m + 1 => if (rd_T60 l (m : Int)).f1 ≥ 0 then (rd_T60 l (m : Int)).f1 else toP l s m
def toS (l : List S60) (s : Int) : Int := toP l s l.length
theorem to_l0 (l : List S60) (s : Int) (hl : (l.length : Int) < 9223372036854775807) : ∀ m i, i + m = l.length → Ev (fun k => rules_to.l0 k (toP l s i) l (l.length : Int) (i : Int)) (toS l s)
  | 0, i, h => by
    have : i = l.length := by omega
    subst this
    refine Ev.step (f := fun _ => some (toP l s l.length)) (fun k => ?_) (Ev.now _)
    simp only [rules_to.l0]; rw [if_neg (by omega)]
  | m + 1, i, h => by
    have ih := to_l0 l s hl m (i + 1) (by omega)
    rw [show ((i + 1 : Nat) : Int) = (i : Int) + 1 by omega] at ih
    refine Ev.step (fun k => ?_) ih
    simp only [rules_to.l0, toP]
    rw [if_pos (by omega), if_pos (by omega), if_pos (by omega), w64 (by omega) (by omega)]
    by_cases c : (rd_T60 l (i : Int)).f1 ≥ 0
    · rw [if_pos c, if_pos c]
    · rw [if_neg c, if_neg c]
theorem to_ev (r : S38) (s : Int) (hl : (r.f4.length : Int) < 9223372036854775807) : Ev (fun k => rules_to.f k r.f0 r.f1 r.f2 r.f3 r.f4 s) (toS r.f4 s) := by
  simp only [rules_to.f]
  exact to_l0 r.f4 s hl r.f4.length 0 (by omega)
theorem to_ref_l0 (r : S38) (s : Int) (hl : (r.f4.length : Int) < 9223372036854775807) : ∀ m, m ≤ r.f4.length → Ev (fun k => surmiseref05_To.l0 k s ((m : Int) - 1) r.f0 r.f1 r.f2 r.f3 r.f4) (toP r.f4 s m)
  | 0, h => by
    refine Ev.step (f := fun _ => some s) (fun k => ?_) (Ev.now _)
    simp only [surmiseref05_To.l0]; rw [if_neg (by omega)]
  | m + 1, h => by
    have e1 : ((m + 1 : Nat) : Int) - 1 = (m : Int) := by omega
    rw [e1]
    unfold toP
    by_cases c : (rd_T60 r.f4 (m : Int)).f1 ≥ 0
    · rw [if_pos c]
      refine Ev.step (f := fun _ => some (rd_T60 r.f4 (m : Int)).f1) (fun k => ?_) (Ev.now _)
      simp only [surmiseref05_To.l0]; rw [if_pos (by omega), if_pos (by omega), if_pos (by omega), if_pos c]
    · rw [if_neg c]
      refine Ev.step (fun k => ?_) (to_ref_l0 r s hl m (by omega))
      simp only [surmiseref05_To.l0]; rw [if_pos (by omega), if_pos (by omega), if_pos (by omega), if_neg c, w64 (by omega) (by omega)]
theorem to_ref_ev (r : S38) (s : Int) (hl : (r.f4.length : Int) < 9223372036854775807) : Ev (fun k => surmiseref05_To.f k r.f0 r.f1 r.f2 r.f3 r.f4 s) (toS r.f4 s) := by
  have := to_ref_l0 r s hl r.f4.length (Nat.le_refl _)
  refine Ev.congr (fun k => ?_) this
  simp only [surmiseref05_To.f]; rw [w64 (by omega) (by omega)]
theorem toP_lt {l : List S60} {s N : Int} (h : ∀ j : Nat, j < l.length → (rd_T60 l (j : Int)).f1 < N) (h0 : 0 ≤ s) (h1 : s < N) : ∀ m, m ≤ l.length → 0 ≤ toP l s m ∧ toP l s m < N
  | 0, _ => ⟨h0, h1⟩
  | m + 1, hm => by
    unfold toP
    by_cases c : (rd_T60 l (m : Int)).f1 ≥ 0
    · rw [if_pos c]; exact ⟨c, h m (by omega)⟩
    · rw [if_neg c]; exact toP_lt h h0 h1 m (by omega)

/-! ### a table that may be -/
theorem checkT_zero {st va : List ByteArray} {start : List Int} {ru : List S38} (h : (checkT st va start ru).1 = 0) :
    checkT st va start ru = (0, 0, 0, 0) ∧ (ru.length : Int) ≤ 12 ∧ (st.length : Int) ≠ 0 ∧ (st.length : Int) ≤ 8 ∧ ∀ n : Nat, n < ru.length → (rd_T38 ru (n : Int)).f4.length ≤ 3 ∧ ∀ j : Nat, j < (rd_T38 ru (n : Int)).f4.length → (rd_T60 (rd_T38 ru (n : Int)).f4 (j : Int)).f1 < (st.length : Int) := by
  unfold checkT at h ⊢
  by_cases c : (tableS st va start ru).1 = 0
  · rw [if_pos c] at h ⊢
    have tz := table_zero c
    cases hs : scan (ruleBad ru (st.length : Int) (va.length : Int)) ru.length 0 with
    | some b =>
      rw [hs] at h
      obtain ⟨j, _, _, hj⟩ := scan_some hs
      rw [ruleBad] at hj
      split at hj
      · cases hj
      · rename_i c2; cases hj; exact absurd h c2
    | none =>
      refine ⟨rfl, tz.2.1, tz.2.2.1, tz.2.2.2.1, fun n hn => ?_⟩
      have hb := scan_none.1 hs n (by omega) (by omega)
      rw [ruleBad] at hb
      split at hb
      · rename_i c2
        unfold ruleS at c2
        split at c2
        · split at c2
          · exact absurd c2 (by simp)
          · split at c2
            · exact absurd c2 (by simp)
            · unfold listsS at c2
              split at c2
              · split at c2
                · split at c2
                  · rename_i c3
                    unfold stepsS at c3
                    split at c3
                    · exact absurd c3 (by simp)
                    · split at c3
                      · exact absurd c3 (by simp)
                      · rename_i c4
                        refine ⟨by omega, fun j hj => ?_⟩
                        cases hq : scan (stepBad (rd_T38 ru (n : Int)).f4 (st.length : Int) (va.length : Int) (rd_T38 ru (n : Int)).f1) (rd_T38 ru (n : Int)).f4.length 0 with
                        | some b => rw [hq] at c3; exact absurd c3 (step_ne hq)
                        | none =>
                          have hb2 := scan_none.1 hq j (by omega) (by omega)
                          rw [stepBad] at hb2
                          split at hb2
                          · rename_i c5
                            unfold stepS at c5
                            split at c5
                            · exact absurd c5 (by simp)
                            · omega
                          · cases hb2
                  · rename_i c3; exact absurd c2 c3
                · rename_i c3; exact absurd c2 c3
              · rename_i c3; exact absurd c2 c3
        · exact absurd c2 (by simp)
      · cases hb
  · rw [if_neg c] at h; exact absurd h c
theorem right_ev (st va : List ByteArray) (start : List Int) (ru : List S38) (h0 : (st.length : Int) < 9223372036854775807) (h1 : (va.length : Int) < 9223372036854775807) (h2 : (start.length : Int) < 9223372036854775807) (h3 : (ru.length : Int) < 9223372036854775807) (hf : fitsAll ru) :
    Ev (fun k => rules_right.f k st va start ru) (decide ((checkT st va start ru).1 = 0)) := by
  simp only [rules_right.f]
  refine Ev.bind (tcheck_ev st va start ru h0 h1 h2 h3 hf) ?_
  by_cases c : (checkT st va start ru).1 = 0
  · rw [decide_eq_true c, (checkT_zero c).1]; exact Ev.now _
  · rw [decide_eq_false c]
    have : ((checkT st va start ru).1 == 0) = false := beq_eq_false_iff_ne.2 c
    simp only [this, Bool.false_and]; exact Ev.now _

/-! ### what can be reached -/
/-- A step from a state by a rule. -/
def leads (st : List ByteArray) (ru : List S38) (n : Nat) (s : Int) : Int := toS (rd_T38 ru (n : Int)).f4 s
inductive Can (st : List ByteArray) (ru : List S38) : Int → Prop
  | zero : Can st ru 0
  | step {s : Int} {n : Nat} (h : Can st ru s) (hn : n < ru.length) (hf : forS st ru (n : Int) s = true) : Can st ru (leads st ru n s)
/-- The steps lead to states there are. -/
def Leads (st : List ByteArray) (ru : List S38) : Prop := (0 : Int) < (st.length : Int) ∧ (st.length : Int) ≤ 8 ∧ (ru.length : Int) ≤ 12 ∧ ∀ n : Nat, n < ru.length → ((rd_T38 ru (n : Int)).f4.length : Int) < 9223372036854775807 ∧ ∀ s : Int, 0 ≤ s → s < (st.length : Int) → 0 ≤ leads st ru n s ∧ leads st ru n s < (st.length : Int)
theorem leads_of {st va : List ByteArray} {start : List Int} {ru : List S38} (h : (checkT st va start ru).1 = 0) : Leads st ru := by
  obtain ⟨_, h1, h2, h3, h4⟩ := checkT_zero h
  exact ⟨by omega, h3, h1, fun n hn => ⟨by have := (h4 n hn).1; omega, fun s s0 s1 => toP_lt (h4 n hn).2 s0 s1 _ (Nat.le_refl _)⟩⟩
/-- A row of what can be reached. -/
def Good (st : List ByteArray) (ru : List S38) (out : List Bool) : Prop := out.length = st.length ∧ ∀ s : Nat, s < st.length → (out.getD s false = true ↔ Can st ru (s : Int))
theorem good_eq {st : List ByteArray} {ru : List S38} {a b : List Bool} (ha : Good st ru a) (hb : Good st ru b) : a = b := by
  refine List.ext_getElem (by rw [ha.1, hb.1]) fun i h1 h2 => ?_
  have e1 := ha.2 i (by rw [← ha.1]; exact h1)
  have e2 := hb.2 i (by rw [← hb.1]; exact h2)
  rw [List.getD_eq_getElem?_getD, List.getElem?_eq_getElem h1, Option.getD_some] at e1
  rw [List.getD_eq_getElem?_getD, List.getElem?_eq_getElem h2, Option.getD_some] at e2
  exact Bool.eq_iff_iff.2 (e1.trans e2.symm)
theorem can_lt {st : List ByteArray} {ru : List S38} (L : Leads st ru) {s : Int} (h : Can st ru s) : 0 ≤ s ∧ s < (st.length : Int) := by
  induction h with
  | zero => exact ⟨Int.le_refl _, L.1⟩
  | step h hn hf ih => exact (L.2.2.2 _ hn).2 _ ih.1 ih.2
/-- A row that holds nothing but what can be reached, holds 0, and is closed, holds all. -/
theorem good_of {st : List ByteArray} {ru : List S38} {out : List Bool} (L : Leads st ru) (hl : out.length = st.length) (h1 : ∀ s : Nat, s < st.length → out.getD s false = true → Can st ru (s : Int)) (h2 : out.getD 0 false = true)
    (h3 : ∀ s : Nat, s < st.length → out.getD s false = true → ∀ n : Nat, n < ru.length → forS st ru (n : Int) (s : Int) = true → out.getD (leads st ru n (s : Int)).toNat false = true) : Good st ru out := by
  refine ⟨hl, fun s hs => ⟨h1 s hs, fun h => ?_⟩⟩
  have key : ∀ t : Int, Can st ru t → out.getD t.toNat false = true := by
    intro t ht
    induction ht with
    | zero => exact h2
    | @step s n h hn hf ih =>
      have hb := can_lt L h
      have e : ((s.toNat : Nat) : Int) = s := Int.toNat_of_nonneg hb.1
      have := h3 s.toNat (by omega) ih n hn (by rw [e]; exact hf)
      rwa [e] at this
  have := key _ h
  rwa [Int.toNat_natCast] at this

/-! ### the program's Reach -/
/-- What waits behind the rules from n on (m of them). -/
def addW (st : List ByteArray) (ru : List S38) (s : Int) : Nat → Nat → List Int → List Int
  | 0, _, w => w
  | m + 1, n, w => addW st ru s m (n + 1) (if forS st ru (n : Int) s = true then w ++ [leads st ru n s] else w)
theorem addW_len {st : List ByteArray} {ru : List S38} {s : Int} : ∀ {m n : Nat} {w : List Int}, (addW st ru s m n w).length ≤ w.length + m
  | 0, n, w => Nat.le_refl _
  | m + 1, n, w => by
    unfold addW
    refine Nat.le_trans addW_len ?_
    split
    · rw [List.length_append]; simp only [List.length_singleton]; omega
    · omega
theorem addW_old {st : List ByteArray} {ru : List S38} {s x : Int} : ∀ {m n : Nat} {w : List Int}, x ∈ w → x ∈ addW st ru s m n w
  | 0, n, w, h => h
  | m + 1, n, w, h => by
    unfold addW
    refine addW_old ?_
    split
    · exact List.mem_append_left _ h
    · exact h
theorem addW_new {st : List ByteArray} {ru : List S38} {s : Int} : ∀ {m n : Nat} {w : List Int} {j : Nat}, n ≤ j → j < n + m → forS st ru (j : Int) s = true → leads st ru j s ∈ addW st ru s m n w
  | 0, n, w, j, h1, h2, _ => by omega
  | m + 1, n, w, j, h1, h2, hf => by
    unfold addW
    by_cases e : j = n
    · subst e
      rw [if_pos hf]
      exact addW_old (List.mem_append_right _ (List.mem_singleton.2 rfl))
    · exact addW_new (by omega) (by omega) hf
theorem addW_mem {st : List ByteArray} {ru : List S38} {s x : Int} : ∀ {m n : Nat} {w : List Int}, x ∈ addW st ru s m n w → x ∈ w ∨ ∃ j, n ≤ j ∧ j < n + m ∧ forS st ru (j : Int) s = true ∧ x = leads st ru j s
  | 0, n, w, h => .inl h
  | m + 1, n, w, h => by
    unfold addW at h
    rcases addW_mem h with h | ⟨j, h1, h2, h3, h4⟩
    · split at h
      · rename_i c
        rcases List.mem_append.1 h with h | h
        · exact .inl h
        · exact .inr ⟨n, Nat.le_refl _, by omega, c, List.mem_singleton.1 h⟩
      · exact .inl h
    · exact .inr ⟨j, by omega, by omega, h3, h4⟩
theorem reach_l1 (st va : List ByteArray) (start : List Int) (ru : List S38) (L : Leads st ru) (hf : froms ru) (out r : List Bool) (s : Int) : ∀ (m n : Nat) (w : List Int), n + m = ru.length → w.length + m ≤ 1000 →
    Ev (fun k => rules_Reach.l0 k out (addW st ru s m n w) st va start ru) r → Ev (fun k => rules_Reach.l1 k out w s ru (ru.length : Int) (n : Int) st va start ru) r
  | 0, n, w, hn, hw, h => by
    refine Ev.step (fun k => ?_) h
    simp only [rules_Reach.l1, addW]; rw [if_neg (by omega)]
  | m + 1, n, w, hn, hw, h => by
    have h12 := L.2.2.1
    refine Ev.step (f := fun k => (rules_For.f k st va start ru (n : Int) s).bind fun t => if t = true then (rules_to.f k (rd_T38 ru (n : Int)).f0 (rd_T38 ru (n : Int)).f1 (rd_T38 ru (n : Int)).f2 (rd_T38 ru (n : Int)).f3 (rd_T38 ru (n : Int)).f4 s).bind fun u => if w.length < 17592186044416 then rules_Reach.l1 k out (w ++ [u]) s ru (ru.length : Int) ((n : Int) + 1) st va start ru else none else rules_Reach.l1 k out w s ru (ru.length : Int) ((n : Int) + 1) st va start ru) (fun k => ?_) (Ev.bind (for_ev st va start ru hf n s) ?_)
    · simp only [rules_Reach.l1]
      rw [if_pos (by omega), if_pos (by omega), if_pos (by omega), w64 (by omega) (by omega)]
    · unfold addW at h
      by_cases c : forS st ru (n : Int) s = true
      · rw [if_pos c] at h; simp only [if_pos c]
        refine Ev.bind (to_ev _ s (L.2.2.2 n (by omega)).1) ?_
        simp only [if_pos (show w.length < 17592186044416 by omega)]
        have ih := reach_l1 st va start ru L hf out r s m (n + 1) (w ++ [leads st ru n s]) (by omega) (by rw [List.length_append]; simp only [List.length_singleton]; omega) h
        rwa [show ((n + 1 : Nat) : Int) = (n : Int) + 1 by omega] at ih
      · rw [if_neg c] at h; simp only [if_neg c]
        have ih := reach_l1 st va start ru L hf out r s m (n + 1) w (by omega) (by omega) h
        rwa [show ((n + 1 : Nat) : Int) = (n : Int) + 1 by omega] at ih
end Go.Proofs.Ytdfhbmallnegfaa.Rules
