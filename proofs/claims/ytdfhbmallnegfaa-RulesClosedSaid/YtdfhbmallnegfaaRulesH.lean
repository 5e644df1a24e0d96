/- Plain laws on tables: the rules that can never be done, in the program, without rounds. -/
import Derived.Test.YtdfhbmallnegfaaRulesG
import Derived.Test.YtdfhbmallnegfaaPAx18
namespace Go.Proofs.Ytdfhbmallnegfaa.Rules
open Go.RowKit Go.Proofs.Ytdfhbmallnegfaa.PA Go.Proofs.YtdfhbmallnegfaaW.PrintWords Go.Proofs.YtdfhbmallnegfaaW.PrintLast Go.Proofs.YtdfhbmallnegfaaW.PrintMore Go.Proofs.Ytdfhbmallnegfaa.Expr
set_option linter.unusedVariables false
set_option linter.unusedSimpArgs false


/-- Is rule n for one of the m states from s on that are marked? -/
def liveF (st : List ByteArray) (ru : List S38) (reach : List Bool) (n : Nat) : Nat → Nat → Bool
  | 0, _ => false
  | m + 1, s => (reach.getD s false && forS st ru (n : Int) (s : Int)) || liveF st ru reach n m (s + 1)
theorem liveF_no {st : List ByteArray} {ru : List S38} {reach : List Bool} {n : Nat} : ∀ {m s : Nat}, liveF st ru reach n m s = false → ∀ t, s ≤ t → t < s + m → ¬ (reach.getD t false = true ∧ forS st ru (n : Int) (t : Int) = true)
  | 0, s, _, t, h1, h2 => by omega
  | m + 1, s, h, t, h1, h2 => by
    unfold liveF at h
    rw [Bool.or_eq_false_iff] at h
    by_cases e : t = s
    · subst e
      rintro ⟨a, b⟩
      rw [a, b] at h
      exact absurd h.1 (by decide)
    · exact liveF_no h.2 t (by omega) (by omega)
/-- The rules from n on (m of them) that can never be done, behind w. -/
def deadP (st : List ByteArray) (ru : List S38) (reach : List Bool) (some_ : Bool) : Nat → Nat → List Int → List Int
  | 0, _, w => w
  | m + 1, n, w => deadP st ru reach some_ m (n + 1) (if (some_ && !liveF st ru reach n reach.length 0) = true then w ++ [(n : Int)] else w)
theorem deadP_no {st : List ByteArray} {ru : List S38} {reach : List Bool} : ∀ {m n : Nat} {w : List Int}, deadP st ru reach false m n w = w
  | 0, _, _ => rfl
  | m + 1, n, w => by unfold deadP; rw [Bool.false_and, if_neg (by simp)]; exact deadP_no
theorem deadP_len {st : List ByteArray} {ru : List S38} {reach : List Bool} {b : Bool} : ∀ {m n : Nat} {w : List Int}, (deadP st ru reach b m n w).length ≤ w.length + m
  | 0, _, _ => Nat.le_refl _
  | m + 1, n, w => by
    unfold deadP
    refine Nat.le_trans deadP_len ?_
    split
    · rw [List.length_append]; simp only [List.length_singleton]; omega
    · omega
theorem deadP_mem {st : List ByteArray} {ru : List S38} {reach : List Bool} {b : Bool} {x : Int} : ∀ {m n : Nat} {w : List Int}, x ∈ deadP st ru reach b m n w → x ∈ w ∨ ∃ j : Nat, x = (j : Int) ∧ liveF st ru reach j reach.length 0 = false
  | 0, _, _, h => .inl h
  | m + 1, n, w, h => by
    unfold deadP at h
    rcases deadP_mem h with h | h
    · split at h
      · rename_i c
        rcases List.mem_append.1 h with h | h
        · exact .inl h
        · refine .inr ⟨n, List.mem_singleton.1 h, ?_⟩
          cases hl : liveF st ru reach n reach.length 0 with
          | false => rfl
          | true => rw [hl] at c; simp at c
      · exact .inl h
    · exact .inr h
theorem dead_l1 (st va : List ByteArray) (start : List Int) (ru : List S38) (hf : froms ru) (reach : List Bool) (hl : (reach.length : Int) < 9223372036854775807) (w r : List Int) (n : Nat) : ∀ (m s : Nat) (d : Bool), s + m = reach.length →
    Ev (fun k => rules_Dead.l1 k reach w (n : Int) (d && !liveF st ru reach n m s) (ru.length : Int) (n : Int) reach (reach.length : Int) (reach.length : Int) st va start ru) r →
    Ev (fun k => rules_Dead.l1 k reach w (n : Int) d (ru.length : Int) (n : Int) reach (reach.length : Int) (s : Int) st va start ru) r
  | 0, s, d, h, hr => by
    have : s = reach.length := by omega
    subst this
    simpa only [liveF, Bool.not_false, Bool.and_true] using hr
  | m + 1, s, d, h, hr => by
    have e0 : rdOf false reach (s : Int) = reach.getD s false := rfl
    have e1 : wrap64 ((s : Int) + 1) = (s : Int) + 1 := w64 (by omega) (by omega)
    by_cases c : reach.getD s false = true
    · refine Ev.step (f := fun k => (rules_For.f k st va start ru (n : Int) (s : Int)).bind fun t => if t = true then rules_Dead.l1 k reach w (n : Int) false (ru.length : Int) (n : Int) reach (reach.length : Int) ((s : Int) + 1) st va start ru else rules_Dead.l1 k reach w (n : Int) d (ru.length : Int) (n : Int) reach (reach.length : Int) ((s : Int) + 1) st va start ru) (fun k => ?_) (Ev.bind (for_ev st va start ru hf n s) ?_)
      · simp only [rules_Dead.l1, e0, if_pos c, e1]
        rw [if_pos (by omega), if_pos (by omega), if_pos (by omega)]
      · by_cases c2 : forS st ru (n : Int) (s : Int) = true
        · simp only [if_pos c2]
          have ih := dead_l1 st va start ru hf reach hl w r n m (s + 1) false (by omega) (by
            simp only [liveF, c, c2, Bool.and_self, Bool.true_or, Bool.not_true, Bool.and_false] at hr
            simpa only [Bool.false_and] using hr)
          rwa [show ((s + 1 : Nat) : Int) = (s : Int) + 1 by omega] at ih
        · simp only [if_neg c2]
          have c2' : forS st ru (n : Int) (s : Int) = false := by simpa using c2
          have ih := dead_l1 st va start ru hf reach hl w r n m (s + 1) d (by omega) (by
            simpa only [liveF, c2', Bool.and_false, Bool.false_or] using hr)
          rwa [show ((s + 1 : Nat) : Int) = (s : Int) + 1 by omega] at ih
    · have c' : reach.getD s false = false := by simpa using c
      have ih := dead_l1 st va start ru hf reach hl w r n m (s + 1) d (by omega) (by
        simpa only [liveF, c', Bool.false_and, Bool.false_or] using hr)
      rw [show ((s + 1 : Nat) : Int) = (s : Int) + 1 by omega] at ih
      refine Ev.step (fun k => ?_) ih
      simp only [rules_Dead.l1, e0, if_neg c, e1]
      rw [if_pos (by omega), if_pos (by omega), if_pos (by omega)]
theorem dead_l0 (st va : List ByteArray) (start : List Int) (ru : List S38) (hf : froms ru) (hm : (ru.length : Int) < 9223372036854775807) (reach : List Bool) (hl : (reach.length : Int) < 9223372036854775807) (hb : decide ((reach.length : Int) > 0) = true → ru.length ≤ 12) : ∀ (m n : Nat) (w : List Int), n + m = ru.length → (decide ((reach.length : Int) > 0) = true → w.length ≤ n) →
    Ev (fun k => rules_Dead.l0 k reach w (ru.length : Int) (n : Int) st va start ru) (deadP st ru reach (decide ((reach.length : Int) > 0)) m n w)
  | 0, n, w, h, hw => by
    refine Ev.step (f := fun _ => some w) (fun k => ?_) (Ev.now _)
    simp only [rules_Dead.l0]; rw [if_neg (by omega)]
  | m + 1, n, w, h, hw => by
    unfold deadP
    refine Ev.step (f := fun k => rules_Dead.l1 k reach w (n : Int) (decide ((reach.length : Int) > 0)) (ru.length : Int) (n : Int) reach (reach.length : Int) ((0 : Nat) : Int) st va start ru) (fun k => ?_) (dead_l1 st va start ru hf reach hl w _ n reach.length 0 _ (by omega) ?_)
    · simp only [rules_Dead.l0]; rw [if_pos (by omega)]; rfl
    · have e1 : wrap64 ((n : Int) + 1) = (n : Int) + 1 := w64 (by omega) (by omega)
      by_cases c : (decide ((reach.length : Int) > 0) && !liveF st ru reach n reach.length 0) = true
      · simp only [c, if_true]
        have c0 : decide ((reach.length : Int) > 0) = true := (Bool.and_eq_true_iff.1 c).1
        have ih := dead_l0 st va start ru hf hm reach hl hb m (n + 1) (w ++ [(n : Int)]) (by omega) (fun h => by have := hw h; rw [List.length_append]; simp only [List.length_singleton]; omega)
        rw [show ((n + 1 : Nat) : Int) = (n : Int) + 1 by omega] at ih
        refine Ev.step (fun k => ?_) ih
        have h12 := hb c0
        have hwn := hw c0
        simp only [rules_Dead.l1, if_true, e1]
        rw [if_neg (by omega), if_pos (by omega)]
      · have c' : (decide ((reach.length : Int) > 0) && !liveF st ru reach n reach.length 0) = false := by simpa using c
        simp only [c', Bool.false_eq_true, if_false]
        have ih := dead_l0 st va start ru hf hm reach hl hb m (n + 1) w (by omega) (fun h => by have := hw h; omega)
        rw [show ((n + 1 : Nat) : Int) = (n : Int) + 1 by omega] at ih
        refine Ev.step (fun k => ?_) ih
        simp only [rules_Dead.l1, Bool.false_eq_true, if_false, e1]
        rw [if_neg (by omega)]
/-- The rules that can never be done. -/
def deadS (st : List ByteArray) (ru : List S38) (reach : List Bool) : List Int := deadP st ru reach true ru.length 0 []
theorem dead_ev (st va : List ByteArray) (start : List Int) (ru : List S38) (h0 : (st.length : Int) < 9223372036854775807) (h1 : (va.length : Int) < 9223372036854775807) (h2 : (start.length : Int) < 9223372036854775807) (h3 : (ru.length : Int) < 9223372036854775807) (hf : fitsAll ru) (c : (checkT st va start ru).1 = 0) {r : List Bool} (hr : Ev (fun k => rules_Reach.f k st va start ru) r) (g : Good st ru r) :
    Ev (fun k => rules_Dead.f k st va start ru) (deadS st ru r) := by
  have L := leads_of c
  have h8 := L.2.1
  have h12 := L.2.2.1
  have hl1 := L.1
  have e : decide ((r.length : Int) > 0) = true := decide_eq_true (by rw [g.1]; exact hl1)
  simp only [rules_Dead.f]
  refine Ev.bind hr ?_
  have := dead_l0 st va start ru (froms_of hf) h3 r (by rw [g.1]; exact h0) (fun _ => by omega) ru.length 0 [] (by omega) (fun _ => Nat.le_refl _)
  rw [e] at this
  exact this
theorem dead_none (st va : List ByteArray) (start : List Int) (ru : List S38) (h0 : (st.length : Int) < 9223372036854775807) (h1 : (va.length : Int) < 9223372036854775807) (h2 : (start.length : Int) < 9223372036854775807) (h3 : (ru.length : Int) < 9223372036854775807) (hf : fitsAll ru) (c : ¬ (checkT st va start ru).1 = 0) :
    Ev (fun k => rules_Dead.f k st va start ru) [] := by
  simp only [rules_Dead.f]
  refine Ev.bind (reach_none st va start ru h0 h1 h2 h3 hf c) ?_
  have := dead_l0 st va start ru (froms_of hf) h3 [] (by simp) (by simp) ru.length 0 [] (by omega) (by simp)
  rw [show decide ((([] : List Bool).length : Int) > 0) = false from rfl, deadP_no] at this
  exact this
end Go.Proofs.Ytdfhbmallnegfaa.Rules
