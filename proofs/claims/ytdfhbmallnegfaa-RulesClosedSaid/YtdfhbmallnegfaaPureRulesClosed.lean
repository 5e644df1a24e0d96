/- Proved: for every table the first state can be reached, what can be reached is closed under the rules, and a dead rule is for no state that can be reached.
   Conditions: none beyond the row's own. -/
import Derived.Test.YtdfhbmallnegfaaRulesH
import Derived.Test.YtdfhbmallnegfaaRulesAwake
import Derived.Test.YtdfhbmallnegfaaSaidRulesClosed
namespace Go.Proofs.Ytdfhbmallnegfaa.Pure
open Go.RowKit Go.Proofs.Ytdfhbmallnegfaa.PA Go.Proofs.YtdfhbmallnegfaaW.PrintWords Go.Proofs.Ytdfhbmallnegfaa.Rules Go.Proofs.Ytdfhbmallnegfaa.Expr
set_option linter.unusedVariables false
set_option linter.unusedSimpArgs false
theorem closed_l2 (st va : List ByteArray) (start : List Int) (ru : List S38) (L : Leads st ru) (hf : froms ru) (l : List Bool) (d : List Int) (g : Rules.Good st ru l) (n : Nat) (hn : n < ru.length) (f : Bool) (hd : f = true → liveF st ru l n l.length 0 = false) (r : Bool)
    (hr : Ev (fun k => surmiselaw05_RulesClosed.l0 k l d ((n : Int) + 1) st va start ru) r) : ∀ (m s : Nat), s + m = st.length → Ev (fun k => surmiselaw05_RulesClosed.l2 k l d (n : Int) f (s : Int) st va start ru) r
  | 0, s, h => by
    have h12 := L.2.2.1
    have hl := g.1
    refine Ev.step (fun k => ?_) hr
    simp only [surmiselaw05_RulesClosed.l2]
    rw [if_neg (by omega), w64 (by omega) (by omega)]
  | m + 1, s, h => by
    have h8 := L.2.1
    have hl := g.1
    have ih := closed_l2 st va start ru L hf l d g n hn f hd r hr m (s + 1) (by omega)
    rw [show ((s + 1 : Nat) : Int) = (s : Int) + 1 by omega] at ih
    have e0 : rdOf false l (s : Int) = l.getD s false := rfl
    have e1 : wrap64 ((s : Int) + 1) = (s : Int) + 1 := w64 (by omega) (by omega)
    by_cases c : l.getD s false = true
    · have hcan := (g.2 s (by omega)).1 c
      refine Ev.step (f := fun k => (surmiseref05_For.f k st va start ru (n : Int) (s : Int)).bind fun t => if t = true then (if f = true then none else (if 0 ≤ (n : Int) then (if (n : Int) < (ru.length : Int) then ((surmiseref05_To.f k (rd_T38 ru (n : Int)).f0 (rd_T38 ru (n : Int)).f1 (rd_T38 ru (n : Int)).f2 (rd_T38 ru (n : Int)).f3 (rd_T38 ru (n : Int)).f4 (s : Int)).bind fun u => (if 0 ≤ u then (if u < (l.length : Int) then (if rdOf false l u = true then surmiselaw05_RulesClosed.l2 k l d (n : Int) f ((s : Int) + 1) st va start ru else none) else none) else none)) else none) else none)) else surmiselaw05_RulesClosed.l2 k l d (n : Int) f ((s : Int) + 1) st va start ru) (fun k => ?_) (Ev.bind (for_ref_ev st va start ru hf n s) ?_)
      · simp only [surmiselaw05_RulesClosed.l2, e0, if_pos c, e1]
        rw [if_pos (by omega), if_pos (by omega)]
      · by_cases c2 : forS st ru (n : Int) (s : Int) = true
        · simp only [if_pos c2]
          have hff : f = false := by
            cases f with
            | false => rfl
            | true => exact absurd ⟨c, c2⟩ (liveF_no (hd rfl) s (Nat.zero_le _) (by omega))
          subst hff
          simp only [Bool.false_eq_true, if_false]
          simp only [if_pos (show (0 : Int) ≤ (n : Int) by omega), if_pos (show (n : Int) < (ru.length : Int) by omega)]
          refine Ev.bind (to_ref_ev _ _ (L.2.2.2 n hn).1) ?_
          have hstep := Can.step hcan hn c2
          have hb := can_lt L hstep
          have hb1 : 0 ≤ toS (rd_T38 ru (n : Int)).f4 (s : Int) := hb.1
          have hb2 : toS (rd_T38 ru (n : Int)).f4 (s : Int) < (l.length : Int) := by rw [hl]; exact hb.2
          have hm : rdOf false l (toS (rd_T38 ru (n : Int)).f4 (s : Int)) = true := by
            refine (g.2 (toS (rd_T38 ru (n : Int)).f4 (s : Int)).toNat (by omega)).2 ?_
            rw [Int.toNat_of_nonneg hb1]
            exact hstep
          simp only [if_pos hb1, if_pos hb2, if_pos hm]
          exact ih
        · simp only [if_neg c2]; exact ih
    · refine Ev.step (fun k => ?_) ih
      simp only [surmiselaw05_RulesClosed.l2, e0, if_neg c, e1]
      rw [if_pos (by omega), if_pos (by omega)]
theorem closed_l1 (st va : List ByteArray) (start : List Int) (ru : List S38) (l : List Bool) (d : List Int) (hd : (d.length : Int) < 9223372036854775807) (n : Nat) (r : Bool)
    (hr : ∀ f : Bool, (f = true → ∃ j : Nat, j < d.length ∧ rd d (j : Int) = (n : Int)) → Ev (fun k => surmiselaw05_RulesClosed.l2 k l d (n : Int) f 0 st va start ru) r) : ∀ (m i : Nat) (f : Bool), i + m = d.length → (f = true → ∃ j : Nat, j < d.length ∧ rd d (j : Int) = (n : Int)) →
    Ev (fun k => surmiselaw05_RulesClosed.l1 k l d (n : Int) f (i : Int) st va start ru) r
  | 0, i, f, h, hf => by
    refine Ev.step (fun k => ?_) (hr f hf)
    simp only [surmiselaw05_RulesClosed.l1]; rw [if_neg (by omega)]
  | m + 1, i, f, h, hf => by
    have e1 : wrap64 ((i : Int) + 1) = (i : Int) + 1 := w64 (by omega) (by omega)
    cases f with
    | true =>
      have ih := closed_l1 st va start ru l d hd n r hr m (i + 1) true (by omega) hf
      rw [show ((i + 1 : Nat) : Int) = (i : Int) + 1 by omega] at ih
      refine Ev.step (fun k => ?_) ih
      simp only [surmiselaw05_RulesClosed.l1, if_true, e1]; rw [if_pos (by omega)]
    | false =>
      have ih := closed_l1 st va start ru l d hd n r hr m (i + 1) (rd d (i : Int) == (n : Int)) (by omega) (fun h => ⟨i, by omega, beq_iff_eq.1 h⟩)
      rw [show ((i + 1 : Nat) : Int) = (i : Int) + 1 by omega] at ih
      refine Ev.step (fun k => ?_) ih
      simp only [surmiselaw05_RulesClosed.l1, Bool.false_eq_true, if_false, e1]; rw [if_pos (by omega), if_pos (by omega)]
theorem closed_l0 (st va : List ByteArray) (start : List Int) (ru : List S38) (L : Leads st ru) (hf : froms ru) (l : List Bool) (g : Rules.Good st ru l) : ∀ (m n : Nat), n + m = ru.length → Ev (fun k => surmiselaw05_RulesClosed.l0 k l (deadS st ru l) (n : Int) st va start ru) true
  | 0, n, h => by
    have h1 := L.1
    have hl := g.1
    have h0 : rdOf false l 0 = true := (g.2 0 (by omega)).2 Can.zero
    refine Ev.step (f := fun _ => some true) (fun k => ?_) (Ev.now _)
    simp only [surmiselaw05_RulesClosed.l0]
    rw [if_neg (by omega), if_pos (by omega), h0]
  | m + 1, n, h => by
    have h12 := L.2.2.1
    have ih := closed_l0 st va start ru L hf l g m (n + 1) (by omega)
    rw [show ((n + 1 : Nat) : Int) = (n : Int) + 1 by omega] at ih
    have hdl : ((deadS st ru l).length : Int) < 9223372036854775807 := by
      have := deadP_len (st := st) (ru := ru) (reach := l) (b := true) (m := ru.length) (n := 0) (w := [])
      simp only [List.length_nil] at this
      unfold deadS
      omega
    refine Ev.step (f := fun k => surmiselaw05_RulesClosed.l1 k l (deadS st ru l) (n : Int) false ((0 : Nat) : Int) st va start ru) (fun k => ?_) (closed_l1 st va start ru l _ hdl n true (fun f hfl => ?_) (deadS st ru l).length 0 false (by omega) (fun h => by cases h))
    · simp only [surmiselaw05_RulesClosed.l0]; rw [if_pos (by omega)]; rfl
    · refine closed_l2 st va start ru L hf l _ g n (by omega) f (fun hft => ?_) true ih st.length 0 (by omega)
      obtain ⟨j, hj, hje⟩ := hfl hft
      have e : rd (deadS st ru l) (j : Int) = (deadS st ru l)[j] := by simp [rd, List.getD_eq_getElem?_getD, List.getElem?_eq_getElem hj]
      have hm : (n : Int) ∈ deadS st ru l := by rw [← hje, e]; exact List.getElem_mem hj
      rcases deadP_mem hm with h | ⟨i, hi, hl⟩
      · simp at h
      · have : n = i := by omega
        subst this; exact hl
theorem RulesClosed : Go.Proofs.Ytdfhbmallnegfaa.SaidRulesClosed.surmiselaw05_RulesClosed.Pure := by
  rintro ⟨st, va, start, ru⟩ ⟨h0, h1, h2, h3⟩
  have l0 : (st.length : Int) < 9223372036854775807 := by have := h0.2.1; simp only at this; omega
  have l1 : (va.length : Int) < 9223372036854775807 := by have := h1.2.1; simp only at this; omega
  have l2 : (start.length : Int) < 9223372036854775807 := by have := h2.2.1; simp only at this; omega
  have l3 : (ru.length : Int) < 9223372036854775807 := by have := h3.2.1; simp only at this; omega
  have hf : fitsAll ru := fitsAll_of fun y hy => by
    have g := h3.2.2 y hy
    refine ⟨by have := g.2.2.1.2.1; omega, fun s hs => ?_⟩
    have := (g.2.2.2.2.2.2 s hs).1.2.1
    omega
  refine Ev.rounds (g := fun k => surmiselaw05_RulesClosed.f k st va start ru) ?_
  simp only [surmiselaw05_RulesClosed.f]
  by_cases c : (checkT st va start ru).1 = 0
  · have L := leads_of c
    have hl1 := L.1
    obtain ⟨r, hr, g⟩ := reach_ev st va start ru l0 l1 l2 l3 hf c
    refine Ev.bind hr (Ev.bind (dead_ev st va start ru l0 l1 l2 l3 hf c hr g) (Ev.bind awake_ev ?_))
    have hne : ((r.length : Int) == 0) = false := beq_eq_false_iff_ne.2 (by rw [g.1]; omega)
    simp only [if_true, hne]
    refine Ev.step (f := fun k => surmiselaw05_RulesClosed.l0 k r (deadS st ru r) ((0 : Nat) : Int) st va start ru) (fun k => ?_) (closed_l0 st va start ru L (froms_of hf) r g ru.length 0 (by omega))
    simp only [surmiselaw05_RulesClosed.j0, Bool.false_eq_true, if_false]; rfl
  · refine Ev.bind (reach_none st va start ru l0 l1 l2 l3 hf c) (Ev.bind (dead_none st va start ru l0 l1 l2 l3 hf c) (Ev.bind awake_ev ?_))
    simp only [if_true]
    refine Ev.step (f := fun k => (surmiselaw05_awake.f k).bind fun t => if t = true then some true else none) (fun k => ?_) (Ev.bind awake_ev (by simp only [if_true]; exact Ev.now _))
    simp only [surmiselaw05_RulesClosed.j0]; rfl
end Go.Proofs.Ytdfhbmallnegfaa.Pure
